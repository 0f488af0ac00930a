/- The roster's small functions: what each reckons, and with what it gives up. -/
import Derived.Test.YthbjcihdlhkboaaDoorNm3
import Derived.Test.YthbjcihdlhkboaaDoorMem
import Derived.Test.YthbjcihdlhkboaaDoorSeq2
import Derived.Defers
import Derived.Recover
namespace Go.Proofs.YthbjcihdlhkboaaDoor
set_option linter.unusedSimpArgs false
set_option linter.unusedVariables false
open Go.RowKit Go.Shelf Go.Lib

def rfailsV (c : Int) : Value := .iface 113 (.agg #[.int .i64 c])

set_option maxHeartbeats 400000 in
theorem rcheck_ok (w : World) :
    Calls Tryd.prog 35 #[.int .i64 0] w fun e w' => e = .returned (.tuple #[]) ∧ w' = w := by
  go_enter Tryd.func35, Tryd.ntmps35
  go_wp2
  go_end0
  exact ⟨rfl, rfl⟩

set_option maxHeartbeats 400000 in
theorem rcheck_no (c : Int) (hc : c ≠ 0) (w : World) :
    Calls Tryd.prog 35 #[.int .i64 c] w fun e w' => e = .panicked [{ v := rfailsV c, recovered := false }] ∧ w' = w := by
  have h1 : (c == 0) = false := by simpa using hc
  have h2 : (c != 0) = true := by simpa using hc
  go_enter Tryd.func35, Tryd.ntmps35
  go_wp2
  exact ⟨rfl, rfl, rfl⟩

set_option maxHeartbeats 400000 in
theorem rmust_yes (c : Int) (w : World) :
    Calls Tryd.prog 29 #[.bool true, .int .i64 c] w fun e w' => e = .returned (.tuple #[]) ∧ w' = w := by
  go_enter Tryd.func29, Tryd.ntmps29
  go_wp2
  go_end0
  exact ⟨rfl, rfl⟩

set_option maxHeartbeats 400000 in
theorem rmust_no (c : Int) (hc : c ≠ 0) (w : World) :
    Calls Tryd.prog 29 #[.bool false, .int .i64 c] w fun e w' => e = .panicked [{ v := rfailsV c, recovered := false }] ∧ w' = w := by
  go_enter Tryd.func29, Tryd.ntmps29
  go_wp2_with fail
  refine (rcheck_no c hc _).mono ?_
  rintro e w' ⟨rfl, rfl⟩
  go_wp2_with fail
  exact ⟨rfl, rfl, rfl⟩

set_option maxHeartbeats 1000000 in
theorem rlocal_ok (s : ByteArray) (w : World) (hT : Tabs w) (hs : s.size ≤ 9223372036854775807) (h : (localS s).2 = 0) :
    Calls Tryd.prog 28 #[.string s] w fun e w' => e = .returned (.string (localS s).1) ∧ Below w.heap.size w w' := by
  have C := Lib.hid (local_full s w hT hs)
  rw [h] at C
  clear h hs hT
  go_enter Tryd.func28, Tryd.ntmps28
  go_wp2_with fail
  refine C.out.mono ?_
  rintro e w1 ⟨rfl, hb1⟩
  go_wp2_with fail
  refine (rcheck_ok _).mono ?_
  rintro e w' ⟨rfl, rfl⟩
  go_wp2_with fail
  go_ret
  exact ⟨rfl, hb1⟩

set_option maxHeartbeats 1000000 in
theorem rlocal_no (s : ByteArray) (w : World) (hT : Tabs w) (hs : s.size ≤ 9223372036854775807) (h : (localS s).2 ≠ 0) :
    Calls Tryd.prog 28 #[.string s] w fun e w' => e = .panicked [{ v := rfailsV (localS s).2, recovered := false }] ∧ Below w.heap.size w w' := by
  have C := Lib.hid (local_full s w hT hs)
  generalize (localS s).2 = c at *
  have HC := Lib.hid h
  clear h hs hT
  go_enter Tryd.func28, Tryd.ntmps28
  go_wp2_with fail
  refine C.out.mono ?_
  rintro e w1 ⟨rfl, hb1⟩
  go_wp2_with fail
  refine (rcheck_no _ HC.out _).mono ?_
  rintro e w' ⟨rfl, rfl⟩
  go_wp2_with fail
  exact ⟨rfl, rfl, hb1⟩

set_option maxHeartbeats 1000000 in
theorem tries_d_panics (b : Nat) (c : Int) (older : List PanicEntry) (w : World) (e0 : Value) (h0 : w.heap[b]? = some (.cells #[e0] 28)) :
    CallsD Tryd.prog 53 #[.pointer (some ⟨b, 0, none⟩)] (.panicking ({ v := rfailsV c, recovered := false } :: older)) w fun e u' w' =>
      e = .returned (.tuple #[]) ∧ u' = .panicking ({ v := rfailsV c, recovered := true } :: older) ∧ w' = w.setCell ⟨b, 0, none⟩ (.int .i64 c) := by
  have ht : ∀ w, (Instr.typeAssert (.iface 113 (.agg #[.int .i64 c])) 20 113 false).run Tryd.prog w = .ok (.agg #[.int .i64 c]) w := fun _ => by kernel_rfl
  have hf : ∀ w, (Instr.field 113 (.agg #[.int .i64 c]) 0).run Tryd.prog w = .ok (.int .i64 c) w := fun _ => by kernel_rfl
  have c0 : w.cell? ⟨b, 0, none⟩ = some e0 := blk_cell h0 0
  have f0 : w.frozen? ⟨b, 0, none⟩ = false := blk_frozen h0 0
  clear h0
  unfold rfailsV
  refine callsD_of_wpS Tryd.func53 rfl fun c₀ cs hu => ?_
  apply wpS_seq
  apply wpS_region
  simp [wpOpsS, go_sem, recoverD, hu, Tryd.ntmps53]
  refine wpS_of_wp ?_
  go_wp2_with fail
  simp [bodyPostS, results, Tryd.results53]

set_option maxHeartbeats 1000000 in
theorem tries_d_returns (p0 : Value) (w : World) :
    CallsD Tryd.prog 53 #[p0] .returning w fun e u' w' => e = .returned (.tuple #[]) ∧ u' = .returning ∧ w' = w := by
  refine callsD_of_wpS Tryd.func53 rfl fun c₀ cs hu => ?_
  apply wpS_seq
  apply wpS_region
  simp [wpOpsS, go_sem, recoverD, hu, Tryd.ntmps53]
  refine wpS_of_wp ?_
  go_wp2
  cases c₀
  simp_all [bodyPostS, results, Tryd.results53]

set_option maxHeartbeats 2000000 in
/-- What is tried ends well. -/
theorem tries_ok (F : Nat) (caps : Array Value) (w : World) (Q : World → Prop) (hE : ∀ args w, (callFunc F args).run Tryd.prog w = .ok (.enter F args) w)
    (hF : Calls Tryd.prog F caps (w.alloc (.cells #[.int .i64 0] 28)) fun e w' => e = .returned (.tuple #[]) ∧ w'.heap[w.heap.size]? = some (.cells #[.int .i64 0] 28) ∧ Q w') :
    Calls Tryd.prog 25 #[.func (.func F) #[] caps] w fun e w' => e = .returned (.int .i64 0) ∧ ∃ w1, Q w1 ∧ w1.heap[w.heap.size]? = some (.cells #[.int .i64 0] 28) ∧ w' = w1.setCell ⟨w.heap.size, 0, none⟩ (.int .i64 0) := by
  have HF := Lib.hid hF
  clear hF
  have hmf : ∀ (fn : Fn) (first cap : Array Value) (w : World), (Instr.makeFunc fn first cap).run Tryd.prog w = .ok (.func fn first cap) w := fun _ _ _ _ => rfl
  go_enter_defers Tryd.func25, Tryd.ntmps25
  go_wp2_with fail
  refine HF.out.mono ?_
  rintro e w1 ⟨rfl, h1, hq⟩
  have c0 : w1.cell? ⟨w.heap.size, 0, none⟩ = some (.int .i64 0) := blk_cell h1 0
  have f0 : w1.frozen? ⟨w.heap.size, 0, none⟩ = false := blk_frozen h1 0
  have HQ := Lib.hid (And.intro hq h1)
  clear hq h1
  go_wp2_with fail
  refine leaves_cons (f := 53) (args := #[.pointer (some ⟨w.heap.size, 0, none⟩)]) (by simp) (by simp [go_sem]) ?_
  refine (tries_d_returns _ _).mono ?_
  rintro e u' w'' ⟨rfl, rfl, rfl⟩
  have c1 : (w1.setCell ⟨w.heap.size, 0, none⟩ (.int .i64 0)).cell? ⟨w.heap.size, 0, none⟩ = some (.int .i64 0) := blk_cell (blk_set_same HQ.out.2 0 _) 0
  simp [Leaves, settle, results, Tryd.results25, go_sem, *]
  exact ⟨w1, HQ.out.1, HQ.out.2, rfl⟩

set_option maxHeartbeats 2000000 in
/-- What is tried gives up. -/
theorem tries_no (F : Nat) (caps : Array Value) (w : World) (c : Int) (Q : World → Prop) (hE : ∀ args w, (callFunc F args).run Tryd.prog w = .ok (.enter F args) w)
    (hF : Calls Tryd.prog F caps (w.alloc (.cells #[.int .i64 0] 28)) fun e w' => e = .panicked [{ v := rfailsV c, recovered := false }] ∧ w'.heap[w.heap.size]? = some (.cells #[.int .i64 0] 28) ∧ Q w') :
    Calls Tryd.prog 25 #[.func (.func F) #[] caps] w fun e w' => e = .returned (.int .i64 c) ∧ ∃ w1, Q w1 ∧ w1.heap[w.heap.size]? = some (.cells #[.int .i64 0] 28) ∧ w' = w1.setCell ⟨w.heap.size, 0, none⟩ (.int .i64 c) := by
  have HF := Lib.hid hF
  clear hF
  have hmf : ∀ (fn : Fn) (first cap : Array Value) (w : World), (Instr.makeFunc fn first cap).run Tryd.prog w = .ok (.func fn first cap) w := fun _ _ _ _ => rfl
  go_enter_defers Tryd.func25, Tryd.ntmps25
  go_wp2_with fail
  refine HF.out.mono ?_
  rintro e w1 ⟨rfl, h1, hq⟩
  have HQ := Lib.hid (And.intro hq h1)
  clear hq h1
  go_wp2_with fail
  refine leaves_cons (f := 53) (args := #[.pointer (some ⟨w.heap.size, 0, none⟩)]) (by simp) (by simp [go_sem]) ?_
  refine (tries_d_panics w.heap.size c [] _ _ HQ.out.2).mono ?_
  rintro e u' w'' ⟨rfl, rfl, rfl⟩
  have c1 : (w1.setCell ⟨w.heap.size, 0, none⟩ (.int .i64 c)).cell? ⟨w.heap.size, 0, none⟩ = some (.int .i64 c) := blk_cell (blk_set_same HQ.out.2 0 _) 0
  simp [Leaves, settle, results, Tryd.results25, go_sem, *]
  exact ⟨w1, HQ.out.1, HQ.out.2, rfl⟩

end Go.Proofs.YthbjcihdlhkboaaDoor
