import Derived.Test.YtgaimcdkbknljaaA2
namespace Go.Proofs.Ytgaimcdkbknljaa
set_option linter.unusedSimpArgs false
set_option linter.unusedVariables false
open Go.RowKit

def strV (l : List UInt8) : Value := .string ⟨l.toArray⟩

/-- What a roster says of a half. -/
def subL (o i : Int) : List UInt8 :=
  if o = 2 ∧ i = 2 then [98, 111, 116, 104] else if o = 2 then [116, 111] else if i = 2 then (if o = 1 then [102, 114, 111, 109, 44, 97, 115, 107] else [102, 114, 111, 109])
  else if o = 1 then [110, 111, 110, 101, 44, 97, 115, 107] else [110, 111, 110, 101]
def subS (h : Half) : List UInt8 := if rightB h = false then [] else subL h.o h.i

theorem side_range {s n : Int} (h : sideB s n = true) : s = 0 ∨ s = 1 ∨ s = 2 := by
  unfold sideB at h
  simp at h
  omega

set_option maxHeartbeats 1000000 in
theorem sub_wrong (o hn i m : Int) (hr : (sideB o hn && sideB i m) = false) (w : World) :
    Calls Try.prog 15 #[Half.val ⟨o, hn, i, m⟩] w fun e w' => e = .returned (.string ⟨#[]⟩) ∧ Below w.heap.size w w' := by
  have H := Lib.hid hr
  clear hr
  go_enter Try.func15, Try.ntmps15
  go_wp2_with fail
  refine (right_any _ _ _ _ _).mono ?_
  rintro e w' ⟨rfl, rfl⟩
  rw [H.out]
  go_wp2_with fail
  go_ret
  exact ⟨rfl, by repeat (first | exact Below.refl _ _ | refine Below.drew ?_ | refine Below.alloc ?_ (by simp; try omega) _)⟩

set_option maxHeartbeats 1000000 in
theorem sub_00 (hn m : Int) (hr : (sideB 0 hn && sideB 0 m) = true) (w : World) :
    Calls Try.prog 15 #[Half.val ⟨0, hn, 0, m⟩] w fun e w' => e = .returned (.string ⟨#[110, 111, 110, 101]⟩) ∧ Below w.heap.size w w' := by
  have H := Lib.hid hr
  clear hr
  go_enter Try.func15, Try.ntmps15
  go_wp2_with fail
  refine (right_any _ _ _ _ _).mono ?_
  rintro e w' ⟨rfl, rfl⟩
  rw [H.out]
  go_wp2_with fail
  go_ret
  exact ⟨rfl, by repeat (first | exact Below.refl _ _ | refine Below.drew ?_ | refine Below.alloc ?_ (by simp; try omega) _)⟩

set_option maxHeartbeats 1000000 in
theorem sub_01 (hn m : Int) (hr : (sideB 0 hn && sideB 1 m) = true) (w : World) :
    Calls Try.prog 15 #[Half.val ⟨0, hn, 1, m⟩] w fun e w' => e = .returned (.string ⟨#[110, 111, 110, 101]⟩) ∧ Below w.heap.size w w' := by
  have H := Lib.hid hr
  clear hr
  go_enter Try.func15, Try.ntmps15
  go_wp2_with fail
  refine (right_any _ _ _ _ _).mono ?_
  rintro e w' ⟨rfl, rfl⟩
  rw [H.out]
  go_wp2_with fail
  go_ret
  exact ⟨rfl, by repeat (first | exact Below.refl _ _ | refine Below.drew ?_ | refine Below.alloc ?_ (by simp; try omega) _)⟩

set_option maxHeartbeats 1000000 in
theorem sub_02 (hn m : Int) (hr : (sideB 0 hn && sideB 2 m) = true) (w : World) :
    Calls Try.prog 15 #[Half.val ⟨0, hn, 2, m⟩] w fun e w' => e = .returned (.string ⟨#[102, 114, 111, 109]⟩) ∧ Below w.heap.size w w' := by
  have H := Lib.hid hr
  clear hr
  go_enter Try.func15, Try.ntmps15
  go_wp2_with fail
  refine (right_any _ _ _ _ _).mono ?_
  rintro e w' ⟨rfl, rfl⟩
  rw [H.out]
  go_wp2_with fail
  go_ret
  exact ⟨rfl, by repeat (first | exact Below.refl _ _ | refine Below.drew ?_ | refine Below.alloc ?_ (by simp; try omega) _)⟩

set_option maxHeartbeats 1000000 in
theorem sub_10 (hn m : Int) (hr : (sideB 1 hn && sideB 0 m) = true) (w : World) :
    Calls Try.prog 15 #[Half.val ⟨1, hn, 0, m⟩] w fun e w' => e = .returned (.string ⟨#[110, 111, 110, 101, 44, 97, 115, 107]⟩) ∧ Below w.heap.size w w' := by
  have H := Lib.hid hr
  clear hr
  go_enter Try.func15, Try.ntmps15
  go_wp2_with fail
  refine (right_any _ _ _ _ _).mono ?_
  rintro e w' ⟨rfl, rfl⟩
  rw [H.out]
  go_wp2_with fail
  go_ret
  exact ⟨rfl, by repeat (first | exact Below.refl _ _ | refine Below.drew ?_ | refine Below.alloc ?_ (by simp; try omega) _)⟩

set_option maxHeartbeats 1000000 in
theorem sub_11 (hn m : Int) (hr : (sideB 1 hn && sideB 1 m) = true) (w : World) :
    Calls Try.prog 15 #[Half.val ⟨1, hn, 1, m⟩] w fun e w' => e = .returned (.string ⟨#[110, 111, 110, 101, 44, 97, 115, 107]⟩) ∧ Below w.heap.size w w' := by
  have H := Lib.hid hr
  clear hr
  go_enter Try.func15, Try.ntmps15
  go_wp2_with fail
  refine (right_any _ _ _ _ _).mono ?_
  rintro e w' ⟨rfl, rfl⟩
  rw [H.out]
  go_wp2_with fail
  go_ret
  exact ⟨rfl, by repeat (first | exact Below.refl _ _ | refine Below.drew ?_ | refine Below.alloc ?_ (by simp; try omega) _)⟩

set_option maxHeartbeats 1000000 in
theorem sub_12 (hn m : Int) (hr : (sideB 1 hn && sideB 2 m) = true) (w : World) :
    Calls Try.prog 15 #[Half.val ⟨1, hn, 2, m⟩] w fun e w' => e = .returned (.string ⟨#[102, 114, 111, 109, 44, 97, 115, 107]⟩) ∧ Below w.heap.size w w' := by
  have H := Lib.hid hr
  clear hr
  go_enter Try.func15, Try.ntmps15
  go_wp2_with fail
  refine (right_any _ _ _ _ _).mono ?_
  rintro e w' ⟨rfl, rfl⟩
  rw [H.out]
  go_wp2_with fail
  go_ret
  exact ⟨rfl, by repeat (first | exact Below.refl _ _ | refine Below.drew ?_ | refine Below.alloc ?_ (by simp; try omega) _)⟩

set_option maxHeartbeats 1000000 in
theorem sub_20 (hn m : Int) (hr : (sideB 2 hn && sideB 0 m) = true) (w : World) :
    Calls Try.prog 15 #[Half.val ⟨2, hn, 0, m⟩] w fun e w' => e = .returned (.string ⟨#[116, 111]⟩) ∧ Below w.heap.size w w' := by
  have H := Lib.hid hr
  clear hr
  go_enter Try.func15, Try.ntmps15
  go_wp2_with fail
  refine (right_any _ _ _ _ _).mono ?_
  rintro e w' ⟨rfl, rfl⟩
  rw [H.out]
  go_wp2_with fail
  go_ret
  exact ⟨rfl, by repeat (first | exact Below.refl _ _ | refine Below.drew ?_ | refine Below.alloc ?_ (by simp; try omega) _)⟩

set_option maxHeartbeats 1000000 in
theorem sub_21 (hn m : Int) (hr : (sideB 2 hn && sideB 1 m) = true) (w : World) :
    Calls Try.prog 15 #[Half.val ⟨2, hn, 1, m⟩] w fun e w' => e = .returned (.string ⟨#[116, 111]⟩) ∧ Below w.heap.size w w' := by
  have H := Lib.hid hr
  clear hr
  go_enter Try.func15, Try.ntmps15
  go_wp2_with fail
  refine (right_any _ _ _ _ _).mono ?_
  rintro e w' ⟨rfl, rfl⟩
  rw [H.out]
  go_wp2_with fail
  go_ret
  exact ⟨rfl, by repeat (first | exact Below.refl _ _ | refine Below.drew ?_ | refine Below.alloc ?_ (by simp; try omega) _)⟩

set_option maxHeartbeats 1000000 in
theorem sub_22 (hn m : Int) (hr : (sideB 2 hn && sideB 2 m) = true) (w : World) :
    Calls Try.prog 15 #[Half.val ⟨2, hn, 2, m⟩] w fun e w' => e = .returned (.string ⟨#[98, 111, 116, 104]⟩) ∧ Below w.heap.size w w' := by
  have H := Lib.hid hr
  clear hr
  go_enter Try.func15, Try.ntmps15
  go_wp2_with fail
  refine (right_any _ _ _ _ _).mono ?_
  rintro e w' ⟨rfl, rfl⟩
  rw [H.out]
  go_wp2_with fail
  go_ret
  exact ⟨rfl, by repeat (first | exact Below.refl _ _ | refine Below.drew ?_ | refine Below.alloc ?_ (by simp; try omega) _)⟩

theorem sub_any (h : Half) (w : World) :
    Calls Try.prog 15 #[h.val] w fun e w' => e = .returned (strV (subS h)) ∧ Below w.heap.size w w' := by
  obtain ⟨o, hn, i, m⟩ := h
  unfold subS rightB strV
  by_cases hr : (sideB o hn && sideB i m) = false
  · rw [if_pos hr]; exact sub_wrong o hn i m hr w
  · rw [if_neg hr]
    replace hr : (sideB o hn && sideB i m) = true := by simpa using hr
    have h2 := hr
    simp only [Bool.and_eq_true] at h2
    rcases side_range h2.1 with rfl | rfl | rfl <;> rcases side_range h2.2 with rfl | rfl | rfl
    · exact sub_00 hn m hr w
    · exact sub_01 hn m hr w
    · exact sub_02 hn m hr w
    · exact sub_10 hn m hr w
    · exact sub_11 hn m hr w
    · exact sub_12 hn m hr w
    · exact sub_20 hn m hr w
    · exact sub_21 hn m hr w
    · exact sub_22 hn m hr w

end Go.Proofs.Ytgaimcdkbknljaa
