/- A new roster; its count of changes; chapter 16's 'wakes'. -/
import Derived.Test.YthbjcihdlhkboaaDoorRo9
namespace Go.Proofs.YthbjcihdlhkboaaDoor
set_option linter.unusedSimpArgs false
set_option linter.unusedVariables false
open Go.RowKit Go.Maps Go.Shelf Go.Lib

abbrev RS.new (items asks : Int) : RS := ⟨items, asks, 0, 0, []⟩

set_option maxHeartbeats 1000000 in
theorem rnew_any (items asks : Int) (h0 : 0 ≤ items) (h1 : items ≤ 10000) (h2 : 0 ≤ asks) (h3 : asks ≤ 10000) (w : World) :
    Calls Tryd.prog 8 #[.int .i64 items, .int .i64 asks] w fun e w' => e = .returned (.tuple #[.pointer (some ⟨w.heap.size + 1, 0, none⟩), .int .i64 0]) ∧ Below w.heap.size w w' ∧
      RoAt w' w.heap.size (w.heap.size + 1) w.heap.size 0 (.map []) (RS.new items asks) := by
  have hmm := @run_makeMap Tryd.prog
  have b0 : decide (items < 0) = false := by simp; omega
  have b1 : decide (10000 < items) = false := by simp; omega
  have b2 : decide (asks < 0) = false := by simp; omega
  have b3 : decide (10000 < asks) = false := by simp; omega
  go_enter Tryd.func8, Tryd.ntmps8
  go_wp2_with fail
  go_ret2
  refine ⟨rfl, ((Below.refl _ _).alloc (Nat.le_refl _) _).alloc (by simp) _, ?_⟩
  exact { cells := blk_new' _ (by simp), own := (World.ownsMap_made _ _ _ _).alloc _, ok := HasOk.empty, size := rfl, lists := fun s => .inl ⟨mget_empty s, rfl⟩, lo := ⟨by omega, Nat.le_refl _⟩, apart := List.nodup_nil }

set_option maxHeartbeats 1000000 in
theorem rver_any {w : World} {B rb mb n : Nat} {D : DataW Value} {R : RS} {kc : Int} (h : RoAtK w B rb mb n D R kc) :
    Calls Tryd.prog 24 #[.pointer (some ⟨rb, 0, none⟩)] w fun e w' => e = .returned (.int .u64 R.ver) ∧ Below w.heap.size w w' := by
  have r2 : w.cell? ⟨rb, 2, none⟩ = some (.int .u64 R.ver) := blk_cell h.cells 2
  clear h
  go_enter Tryd.func24, Tryd.ntmps24
  go_wp2_with fail
  go_ret
  exact ⟨rfl, Below.refl _ _⟩

abbrev textBob : ByteArray := ⟨#[66, 111, 98]⟩
abbrev textbob : ByteArray := ⟨#[98, 111, 98]⟩
abbrev RW : RS := ⟨2, 1, 1, 1, [(textbob, ⟨textbob, true, ⟨#[]⟩, [], ⟨1, 1, 0, 0⟩⟩)]⟩
theorem wake_act : (RS.new 2 1).actAll textBob 11 = (RW, 1, 1, true, 0) := by kernel_rfl
abbrev wakeE : Ent := ⟨textbob, true, ⟨#[]⟩, [], ⟨1, 1, 0, 0⟩⟩
theorem wake_get : RW.get textbob = some wakeE := by kernel_rfl
theorem wake_local : (localS textbob).1 = textbob := by kernel_rfl

set_option maxRecDepth 100000 in
set_option maxHeartbeats 4000000 in
theorem wakes16_any (w : World) (hT : Tabs w) :
    Calls Tryd.prog 9 #[] w fun e w' => e = .returned (.bool true) ∧ Below w.heap.size w w' := by
  have HT := Lib.hid hT
  clear hT
  go_enter Tryd.func9, Tryd.ntmps9
  go_wp2_with fail
  refine (rnew_any 2 1 (by decide) (by decide) (by decide) (by decide) _).mono ?_
  rintro e w1 ⟨rfl, hb1, hr1⟩
  have H1 := Lib.hid (And.intro hb1 hr1)
  clear hb1 hr1
  go_wp2_with fail
  have C2 := ract_any H1.out.2 (HT.out.later H1.out.1) textBob 11 (by decide) (by decide) H1.out.1.size (by decide) (by decide) (by decide) (by decide)
  rw [wake_act] at C2
  refine C2.mono ?_
  rintro e w2 ⟨rfl, ⟨n2, D2, hn2, hr2⟩, hu2⟩
  have hb2 : Below w.heap.size w w2 := H1.out.1.trans (hu2.below (by rintro k (e | e) <;> omega) H1.out.1.size)
  have H2 := Lib.hid (And.intro hb2 hr2)
  clear hb2 hr2 hu2 C2 H1
  go_wp2_with fail
  have C3 := rget_any H2.out.2 (HT.out.later H2.out.1) textbob (by decide)
  rw [wake_local, wake_get] at C3
  simp only [Option.getD_some, Option.isSome_some] at C3
  refine C3.mono ?_
  rintro e w3 ⟨⟨A, c, rfl, hg⟩, hb3⟩
  have H3 := Lib.hid (And.intro (H2.out.1.trans (hb3.mono H2.out.1.size)) (H2.out.2.below hb3))
  clear hb3 hg C3 H2
  have hA : Below w3.heap.size w3 (w3.alloc (.cells #[.string textbob, .bool true, .string ⟨#[]⟩, .slice A 0 c, .int .i64 1, .int .u64 1, .int .i64 0, .int .u64 0] 47)) := (Below.refl _ _).alloc (Nat.le_refl _) _
  have C4 := Lib.hid (rver_any (H3.out.2.below hA))
  clear hA
  go_wp2_with fail
  refine C4.out.mono ?_
  rintro e w4 ⟨rfl, hb4⟩
  have h4 := Lib.hid ((H3.out.1.alloc H3.out.1.size _).trans (hb4.mono (by have := H3.out.1.size; simp <;> omega)))
  clear hb4
  go_wp2_with fail
  go_ret
  exact ⟨rfl, h4.out⟩

end Go.Proofs.YthbjcihdlhkboaaDoor
