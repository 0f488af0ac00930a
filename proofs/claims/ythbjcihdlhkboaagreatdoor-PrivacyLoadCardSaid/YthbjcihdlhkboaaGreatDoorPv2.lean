/- The reader of rules: its deferred function in both modes. -/
import Derived.Test.YthbjcihdlhkboaaGreatDoorPv1
import Derived.Test.YthbjcihdlhkboaaGreatDoorMem
namespace Go.Proofs.YthbjcihdlhkboaaGreatDoor
set_option linter.unusedSimpArgs false
set_option linter.unusedVariables false
open Go.RowKit

set_option maxHeartbeats 1000000 in
theorem parse_d_panics (b0 b1 : Nat) (c : Int) (older : List PanicEntry) (w : World) (x0 x1 x2 x3 x4 e0 : Value)
    (h0 : w.heap[b0]? = some (.cells #[x0, x1, x2, x3, x4] 138)) (h1 : w.heap[b1]? = some (.cells #[e0] 24)) (hne : b0 ≠ b1) :
    CallsD Tryz.prog 132 #[.pointer (some ⟨b0, 0, none⟩), .pointer (some ⟨b1, 0, none⟩)] (.panicking ({ v := failsV c, recovered := false } :: older)) w fun e u' w' =>
      e = .returned (.tuple #[]) ∧ u' = .panicking ({ v := failsV c, recovered := true } :: older) ∧ (∀ B, B ≤ b0 → B ≤ b1 → Below B w w') ∧
      w'.heap[b0]? = some (.cells #[.bool false, .bool false, .bool false, .string ⟨#[]⟩, .string ⟨#[]⟩] 138) ∧ w'.heap[b1]? = some (.cells #[.int .i64 c] 24) := by
  have ht : ∀ w, (Instr.typeAssert (.iface 177 (.agg #[.int .i64 c])) 20 177 false).run Tryz.prog w = .ok (.agg #[.int .i64 c]) w := fun _ => by kernel_rfl
  have hf : ∀ w, (Instr.field 177 (.agg #[.int .i64 c]) 0).run Tryz.prog w = .ok (.int .i64 c) w := fun _ => by kernel_rfl
  have c0 : w.cell? ⟨b0, 0, none⟩ = some x0 := blk_cell h0 0
  have c1 : w.cell? ⟨b0, 1, none⟩ = some x1 := blk_cell h0 1
  have c2 : w.cell? ⟨b0, 2, none⟩ = some x2 := blk_cell h0 2
  have c3 : w.cell? ⟨b0, 3, none⟩ = some x3 := blk_cell h0 3
  have c4 : w.cell? ⟨b0, 4, none⟩ = some x4 := blk_cell h0 4
  have c5 : w.cell? ⟨b1, 0, none⟩ = some e0 := blk_cell h1 0
  have f0 : w.frozen? ⟨b0, 0, none⟩ = false := blk_frozen h0 0
  have f1 : w.frozen? ⟨b0, 1, none⟩ = false := blk_frozen h0 1
  have f2 : w.frozen? ⟨b0, 2, none⟩ = false := blk_frozen h0 2
  have f3 : w.frozen? ⟨b0, 3, none⟩ = false := blk_frozen h0 3
  have f4 : w.frozen? ⟨b0, 4, none⟩ = false := blk_frozen h0 4
  have f5 : w.frozen? ⟨b1, 0, none⟩ = false := blk_frozen h1 0
  have H := Lib.hid (And.intro h0 h1)
  clear h0 h1
  have hne2 : b1 ≠ b0 := fun e => hne e.symm
  unfold failsV
  refine callsD_of_wpS Tryz.func132 rfl fun c₀ cs hu => ?_
  apply wpS_seq
  apply wpS_region
  simp [wpOpsS, go_sem, recoverD, hu, Tryz.ntmps132]
  refine wpS_of_wp ?_
  go_wp2_with fail
  rw [show (#[Value.pointer (some ⟨b0, 0, none⟩), Value.pointer (some ⟨b1, 0, none⟩)] ++ ((((Array.replicate 8 undef).setIfInBounds 1 (Value.iface 177 (.agg #[.int .i64 c]))).setIfInBounds 0 (Value.iface 177 (.agg #[.int .i64 c]))).setIfInBounds 2 (Value.iface 177 (.agg #[.int .i64 c]))).setIfInBounds 3 (.bool true)) = #[.pointer (some ⟨b0, 0, none⟩), .pointer (some ⟨b1, 0, none⟩), (Value.iface 177 (.agg #[.int .i64 c])), (Value.iface 177 (.agg #[.int .i64 c])), (Value.iface 177 (.agg #[.int .i64 c])), .bool true, undef, undef, undef, undef] from rfl]
  go_region
  all_goals
    go_wp2_with fail
    simp [bodyPostS, results, Tryz.results132]
    refine ⟨fun B hB0 hB1 => Below.drew (Below.setCell (Below.setCell (Below.setCell (Below.setCell (Below.setCell (Below.setCell (Below.refl _ _) hB0 _) hB0 _) hB0 _) hB0 _) hB0 _) hB1 _), ?_, ?_⟩
    · exact blk_drew (by refine blk_set_other ?_ _ hne; exact blk_set_same (blk_set_same (blk_set_same (blk_set_same (blk_set_same H.out.1 0 _) 1 _) 2 _) 3 _) 4 _)
    · refine blk_drew ?_
      refine blk_set_same (cs := #[e0]) ?_ 0 _
      refine blk_set_other ?_ _ hne2
      refine blk_set_other ?_ _ hne2
      refine blk_set_other ?_ _ hne2
      refine blk_set_other ?_ _ hne2
      refine blk_set_other ?_ _ hne2
      exact H.out.2

set_option maxHeartbeats 1000000 in
theorem parse_d_returns (p0 p1 : Value) (w : World) :
    CallsD Tryz.prog 132 #[p0, p1] .returning w fun e u' w' => e = .returned (.tuple #[]) ∧ u' = .returning ∧ w' = w := by
  refine callsD_of_wpS Tryz.func132 rfl fun c₀ cs hu => ?_
  apply wpS_seq
  apply wpS_region
  simp [wpOpsS, go_sem, recoverD, hu, Tryz.ntmps132]
  refine wpS_of_wp ?_
  go_wp2
  cases c₀
  simp_all [bodyPostS, results, Tryz.results132]

end Go.Proofs.YthbjcihdlhkboaaGreatDoor
