/- Chapter 17's 'wakes': it answers true. -/
import Derived.Test.YthbjcihdlhkboaaGreatDoorWk1
namespace Go.Proofs.YthbjcihdlhkboaaGreatDoor
set_option linter.unusedSimpArgs false
set_option linter.unusedVariables false
open Go.RowKit Go.Maps Go.Shelf Go.Lib

set_option maxHeartbeats 1000000 in
theorem drop_none {w : World} {B lb mb n : Nat} {D : DataW Value} {L : LS} (h : LAt w B lb mb n D L) (name : ByteArray) (hs : name.size ≤ maxLen) (hg : (L.get name).isSome = false) :
    Calls Tryz.prog 45 #[.pointer (some ⟨lb, 0, none⟩), .string name] w fun e w' => e = .returned (.int .i64 7) ∧ Below w.heap.size w w' := by
  have C := has_any h name hs
  rw [hg] at C
  have HC := Lib.hid C
  clear C h hg
  go_enter Tryz.func45, Tryz.ntmps45
  go_wp2_with fail
  refine HC.out.mono ?_
  rintro e w1 ⟨rfl, hb1⟩
  go_wp2_with fail
  go_ret
  exact ⟨rfl, hb1⟩

/-- The lists of 'wakes'. -/
abbrev L0 : LS := ⟨2, 5, ⟨#[]⟩, []⟩
theorem wakes_set : L0.set nameA [denyBob, allowAll] = (0, L0.put nameA [denyR, allowR]) := by
  unfold LS.set
  rw [if_pos word_a]
  simp only [parseAll, parse_denyBob, parse_allowAll]
  rfl

theorem Strs.nil (w : World) : Strs w (.slice none 0 0) [] := ⟨⟨none, 0, rfl, fun h => absurd h (by decide)⟩, by decide⟩

theorem below_of_grown {w w' : World} {B mb : Nat} (h : w.grownBy w' (some mb)) (hB : B ≤ mb) (hw : B ≤ w.heap.size) : Below B w w' :=
  ⟨h.os, h.tape, h.output, h.size, fun k hk => h.block k (by omega) (by simp; omega)⟩

set_option maxRecDepth 100000 in
set_option maxHeartbeats 4000000 in
theorem wakes17_any (w : World) (hT : Tabs w) :
    Calls Tryz.prog 12 #[] w fun e w' => e = .returned (.bool true) ∧ Below w.heap.size w w' := by
  have HT := Lib.hid hT
  clear hT
  go_enter Tryz.func12, Tryz.ntmps12
  go_wp2_with fail
  refine (new_any 2 5 (by decide) (by decide) (by decide) (by decide) _).mono ?_
  rintro e w1 ⟨rfl, hb1, hl1⟩
  have H1 := Lib.hid (And.intro hb1 hl1)
  clear hb1 hl1
  go_wp2_with fail
  have hA : Below w1.heap.size w1 (w1.alloc (.cells #[.string denyBob, .string allowAll] 9)) := (Below.refl _ _).alloc (Nat.le_refl _) _
  have hWA : Below w.heap.size w (w1.alloc (.cells #[.string denyBob, .string allowAll] 9)) := H1.out.1.trans (hA.mono H1.out.1.size)
  have hstr : Strs (w1.alloc (.cells #[.string denyBob, .string allowAll] 9)) (.slice (some ⟨w1.heap.size, 0, none⟩) 2 2) [denyBob, allowAll] :=
    ⟨⟨_, 2, rfl, fun _ => ⟨w1.heap.size, 0, rfl, by simp, fun j hj => by
      have hb := blk_cell (blk_new w1 (.cells #[.string denyBob, .string allowAll] 9)) (0 + j)
      match j, hj with
      | 0, _ => exact hb
      | 1, _ => exact hb⟩⟩, by decide⟩
  have hsz : ∀ t ∈ [denyBob, allowAll], t.size ≤ 1000000 := by
    intro t ht
    simp at ht
    rcases ht with rfl | rfl <;> decide
  refine (set_any (H1.out.2.below hA) (HT.out.later hWA) nameA (by decide) _ [denyBob, allowAll] hstr (by decide) hsz (by decide) hWA.size).mono ?_
  rintro e w2 ⟨he, n2, D2, hn2, hl2, hg2⟩
  rw [wakes_set] at he hl2
  obtain rfl : e = _ := he
  have hb2 : Below w.heap.size w w2 := hWA.trans (below_of_grown hg2 (Nat.le_refl _) hWA.size)
  have H2 := Lib.hid (And.intro hb2 hl2)
  clear hA hWA hstr hsz hg2 hl2 hb2 H1 HT
  go_wp2_with fail
  have C3 := allows_any H2.out.2 nameA true bob (.slice none 0 0) [] ⟨#[]⟩ (by decide) (Strs.nil _)
  rw [show LS.allows (L0.put nameA [denyR, allowR]) nameA true bob [] ⟨#[]⟩ = false from by kernel_rfl] at C3
  refine C3.mono ?_
  rintro e w3 ⟨rfl, hb3⟩
  have H3 := Lib.hid (And.intro (H2.out.1.trans (hb3.mono H2.out.1.size)) (H2.out.2.below hb3))
  clear hb3 C3 H2
  go_wp2_with fail
  have C4 := allows_any H3.out.2 nameA true cyd (.slice none 0 0) [] ⟨#[]⟩ (by decide) (Strs.nil _)
  rw [show LS.allows (L0.put nameA [denyR, allowR]) nameA true cyd [] ⟨#[]⟩ = true from by kernel_rfl] at C4
  refine C4.mono ?_
  rintro e w4 ⟨rfl, hb4⟩
  have H4 := Lib.hid (And.intro (H3.out.1.trans (hb4.mono H3.out.1.size)) (H3.out.2.below hb4))
  clear hb4 C4 H3
  go_wp2_with fail
  have C5 := allows_any H4.out.2 ⟨#[]⟩ true bob (.slice none 0 0) [] ⟨#[]⟩ (by decide) (Strs.nil _)
  rw [show LS.allows (L0.put nameA [denyR, allowR]) ⟨#[]⟩ true bob [] ⟨#[]⟩ = true from by kernel_rfl] at C5
  refine C5.mono ?_
  rintro e w5 ⟨rfl, hb5⟩
  have H5 := Lib.hid (And.intro (H4.out.1.trans (hb5.mono H4.out.1.size)) (H4.out.2.below hb5))
  clear hb5 C5 H4
  go_wp2_with fail
  refine (drop_none H5.out.2 nameB (by decide) (by kernel_rfl)).mono ?_
  rintro e w6 ⟨rfl, hb6⟩
  go_wp2_with fail
  go_ret
  exact ⟨rfl, H5.out.1.trans (hb6.mono H5.out.1.size)⟩

end Go.Proofs.YthbjcihdlhkboaaGreatDoor
