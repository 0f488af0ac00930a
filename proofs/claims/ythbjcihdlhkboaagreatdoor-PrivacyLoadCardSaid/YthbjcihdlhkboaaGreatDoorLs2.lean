/- Whether a rule fits. -/
import Derived.Test.YthbjcihdlhkboaaGreatDoorLs1
namespace Go.Proofs.YthbjcihdlhkboaaGreatDoor
set_option linter.unusedSimpArgs false
set_option linter.unusedVariables false
open Go.RowKit Go.Maps Go.Shelf Go.Lib

/-- A slice of texts in memory, for reading alone. -/
structure Strs (w : World) (v : Value) (ts : List ByteArray) : Prop where
  form : ∃ A cap, v = .slice A ts.length cap ∧ (0 < ts.length → ∃ b off, A = some ⟨b, off, none⟩ ∧ b < w.heap.size ∧ ∀ j, j < ts.length → w.cell? ⟨b, off + j, none⟩ = some (.string (ts.getD j ByteArray.empty)))
  len : ts.length ≤ 9223372036854775807

theorem Strs.below {w w' : World} {v : Value} {ts : List ByteArray} (h : Strs w v ts) (hb : Below w.heap.size w w') : Strs w' v ts := by
  obtain ⟨⟨A, cap, hv, hf⟩, hl⟩ := h
  refine ⟨⟨A, cap, hv, fun h0 => ?_⟩, hl⟩
  obtain ⟨b, off, hA, hlt, hc⟩ := hf h0
  exact ⟨b, off, hA, Nat.lt_of_lt_of_le hlt hb.size, fun j hj => (hb.cell hlt).trans (hc j hj)⟩

theorem contains_any {w : World} {v : Value} {ts : List ByteArray} (h : Strs w v ts) (x : ByteArray) :
    Calls Tryz.prog 104 #[v, .string x] w fun e w' => e = .returned (.bool (Lib.containsS ts x)) ∧ w' = w := by
  obtain ⟨⟨A, cap, rfl, hf⟩, hl⟩ := h
  by_cases h0 : 0 < ts.length
  · obtain ⟨b, off, rfl, _, hc⟩ := hf h0
    have := Any.slices_Contains_string Tryz.lays110 b off ts.length cap ts x w (Nat.le_refl _) hl hc
    rw [List.take_length] at this
    exact this
  · have e : ts = [] := List.eq_nil_of_length_eq_zero (by omega)
    subst e
    exact Any.slices_Contains_string_empty Tryz.lays110 A cap x w

def jidL : List UInt8 := [106, 105, 100]
/-- Does a rule fit? -/
def fitsS (r : Rule) (inn : Bool) (contact : ByteArray) (groups : List ByteArray) (sub : ByteArray) : Bool :=
  if (inn && !r.inn) || (!inn && !r.out) then false
  else if r.by_.toList == [106, 105, 100] then r.value.toList == contact.toList
  else if r.by_.toList == [103, 114, 111, 117, 112] then Lib.containsS groups r.value
  else if r.by_.toList == [115, 117, 98] then (sub.toList == r.value.toList) || (sub.toList == (r.value ++ ⟨#[44, 97, 115, 107]⟩).toList)
  else true

set_option maxRecDepth 100000 in
set_option maxHeartbeats 4000000 in
theorem fits_any (r : Rule) (inn : Bool) (contact sub : ByteArray) (v : Value) (ts : List ByteArray) (b1 b2 b3 b4 : Nat) (w : World)
    (c1 : w.cell? ⟨b1, 0, none⟩ = some (.bool inn)) (c2 : w.cell? ⟨b2, 0, none⟩ = some (.string contact)) (c3 : w.cell? ⟨b3, 0, none⟩ = some v) (c4 : w.cell? ⟨b4, 0, none⟩ = some (.string sub)) (hs : Strs w v ts) (hval : r.value.size ≤ 4294967296) :
    Calls Tryz.prog 103 #[r.val, .pointer (some ⟨b1, 0, none⟩), .pointer (some ⟨b2, 0, none⟩), .pointer (some ⟨b3, 0, none⟩), .pointer (some ⟨b4, 0, none⟩)] w fun e w' => e = .returned (.bool (fitsS r inn contact ts sub)) ∧ Below w.heap.size w w' := by
  have z1 : b1 < w.heap.size := World.block_lt_of_cell? w _ c1
  have z2 : b2 < w.heap.size := World.block_lt_of_cell? w _ c2
  have z3 : b3 < w.heap.size := World.block_lt_of_cell? w _ c3
  have z4 : b4 < w.heap.size := World.block_lt_of_cell? w _ c4
  have HS := Lib.hid hs
  clear hs
  obtain ⟨ra, ri, ro, rb, rv⟩ := r
  have h5 : ¬ 9223372036854775807 < rv.size + 4 := by simp only at hval; omega
  clear hval
  unfold fitsS
  simp only
  cases inn
  · cases ro
    · as_aux_lemma =>
      go_enter Tryz.func103, Tryz.ntmps103
      go_wp2_with fail
      go_ret
      exact ⟨by simp, (Below.refl _ _).alloc (Nat.le_refl _) _⟩
    · rw [if_neg (by simp)]
      cases hj : (rb.toList == [106, 105, 100])
      · cases hg : (rb.toList == [103, 114, 111, 117, 112])
        · cases hb : (rb.toList == [115, 117, 98])
          · as_aux_lemma =>
            go_enter Tryz.func103, Tryz.ntmps103
            go_wp2_with fail
            go_ret
            exact ⟨rfl, (Below.refl _ _).alloc (Nat.le_refl _) _⟩
          · cases h1 : (sub.toList == rv.toList)
            · as_aux_lemma =>
              go_enter Tryz.func103, Tryz.ntmps103
              go_wp2_with fail
              go_ret
              exact ⟨by simp, (Below.refl _ _).alloc (Nat.le_refl _) _⟩
            · as_aux_lemma =>
              go_enter Tryz.func103, Tryz.ntmps103
              go_wp2_with fail
              go_ret
              exact ⟨by simp, (Below.refl _ _).alloc (Nat.le_refl _) _⟩
        · as_aux_lemma =>
          go_enter Tryz.func103, Tryz.ntmps103
          go_wp2_with fail
          refine (contains_any (HS.out.below ((Below.refl _ _).alloc (Nat.le_refl _) _)) rv).mono ?_
          rintro e w1 ⟨rfl, rfl⟩
          go_wp2_with fail
          go_ret
          exact ⟨rfl, (Below.refl _ _).alloc (Nat.le_refl _) _⟩
      · as_aux_lemma =>
        go_enter Tryz.func103, Tryz.ntmps103
        go_wp2_with fail
        go_ret
        exact ⟨rfl, (Below.refl _ _).alloc (Nat.le_refl _) _⟩
  · cases ri
    · as_aux_lemma =>
      go_enter Tryz.func103, Tryz.ntmps103
      go_wp2_with fail
      go_ret
      exact ⟨by simp, (Below.refl _ _).alloc (Nat.le_refl _) _⟩
    · rw [if_neg (by simp)]
      cases hj : (rb.toList == [106, 105, 100])
      · cases hg : (rb.toList == [103, 114, 111, 117, 112])
        · cases hb : (rb.toList == [115, 117, 98])
          · as_aux_lemma =>
            go_enter Tryz.func103, Tryz.ntmps103
            go_wp2_with fail
            go_ret
            exact ⟨rfl, (Below.refl _ _).alloc (Nat.le_refl _) _⟩
          · cases h1 : (sub.toList == rv.toList)
            · as_aux_lemma =>
              go_enter Tryz.func103, Tryz.ntmps103
              go_wp2_with fail
              go_ret
              exact ⟨by simp, (Below.refl _ _).alloc (Nat.le_refl _) _⟩
            · as_aux_lemma =>
              go_enter Tryz.func103, Tryz.ntmps103
              go_wp2_with fail
              go_ret
              exact ⟨by simp, (Below.refl _ _).alloc (Nat.le_refl _) _⟩
        · as_aux_lemma =>
          go_enter Tryz.func103, Tryz.ntmps103
          go_wp2_with fail
          refine (contains_any (HS.out.below ((Below.refl _ _).alloc (Nat.le_refl _) _)) rv).mono ?_
          rintro e w1 ⟨rfl, rfl⟩
          go_wp2_with fail
          go_ret
          exact ⟨rfl, (Below.refl _ _).alloc (Nat.le_refl _) _⟩
      · as_aux_lemma =>
        go_enter Tryz.func103, Tryz.ntmps103
        go_wp2_with fail
        go_ret
        exact ⟨rfl, (Below.refl _ _).alloc (Nat.le_refl _) _⟩

end Go.Proofs.YthbjcihdlhkboaaGreatDoor
