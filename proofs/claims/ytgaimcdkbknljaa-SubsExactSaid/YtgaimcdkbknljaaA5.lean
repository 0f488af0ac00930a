import Derived.Test.YtgaimcdkbknljaaA4
namespace Go.Proofs.Ytgaimcdkbknljaa
set_option linter.unusedSimpArgs false
set_option linter.unusedVariables false
open Go.RowKit

set_option maxHeartbeats 1000000 in
theorem rright_0 (o n i m : Int) (h1 : decide (0 ≤ o) = false) (w : World) :
    Calls Try.prog 24 #[.agg #[.int .i64 o, .int .u64 n, .int .i64 i, .int .u64 m]] w fun e w' => e = .returned (.bool false) ∧ w' = w.alloc (.cells #[.int .i64 o, .int .u64 n, .int .i64 i, .int .u64 m] 25) := by
  go_enter Try.func24, Try.ntmps24
  go_wp2_with fail
  go_ret
  exact ⟨rfl, rfl⟩

set_option maxHeartbeats 1000000 in
theorem rright_1 (o n i m : Int) (h1 : decide (0 ≤ o) = true) (h2 : decide (o ≤ 2) = false) (w : World) :
    Calls Try.prog 24 #[.agg #[.int .i64 o, .int .u64 n, .int .i64 i, .int .u64 m]] w fun e w' => e = .returned (.bool false) ∧ w' = w.alloc (.cells #[.int .i64 o, .int .u64 n, .int .i64 i, .int .u64 m] 25) := by
  go_enter Try.func24, Try.ntmps24
  go_wp2_with fail
  go_ret
  exact ⟨rfl, rfl⟩

set_option maxHeartbeats 1000000 in
theorem rright_2 (o n i m : Int) (h1 : decide (0 ≤ o) = true) (h2 : decide (o ≤ 2) = true) (h3 : decide (0 ≤ i) = false) (w : World) :
    Calls Try.prog 24 #[.agg #[.int .i64 o, .int .u64 n, .int .i64 i, .int .u64 m]] w fun e w' => e = .returned (.bool false) ∧ w' = w.alloc (.cells #[.int .i64 o, .int .u64 n, .int .i64 i, .int .u64 m] 25) := by
  go_enter Try.func24, Try.ntmps24
  go_wp2_with fail
  go_ret
  exact ⟨rfl, rfl⟩

set_option maxHeartbeats 1000000 in
theorem rright_3 (o n i m : Int) (h1 : decide (0 ≤ o) = true) (h2 : decide (o ≤ 2) = true) (h3 : decide (0 ≤ i) = true) (h4 : decide (i ≤ 2) = false) (w : World) :
    Calls Try.prog 24 #[.agg #[.int .i64 o, .int .u64 n, .int .i64 i, .int .u64 m]] w fun e w' => e = .returned (.bool false) ∧ w' = w.alloc (.cells #[.int .i64 o, .int .u64 n, .int .i64 i, .int .u64 m] 25) := by
  go_enter Try.func24, Try.ntmps24
  go_wp2_with fail
  go_ret
  exact ⟨rfl, rfl⟩

set_option maxHeartbeats 1000000 in
theorem rright_4 (o n i m : Int) (h1 : decide (0 ≤ o) = true) (h2 : decide (o ≤ 2) = true) (h3 : decide (0 ≤ i) = true) (h4 : decide (i ≤ 2) = true) (h5 : ((n == 0) == (o == 0)) = false) (w : World) :
    Calls Try.prog 24 #[.agg #[.int .i64 o, .int .u64 n, .int .i64 i, .int .u64 m]] w fun e w' => e = .returned (.bool false) ∧ w' = w.alloc (.cells #[.int .i64 o, .int .u64 n, .int .i64 i, .int .u64 m] 25) := by
  go_enter Try.func24, Try.ntmps24
  go_wp2_with fail
  go_ret
  exact ⟨rfl, rfl⟩

set_option maxHeartbeats 1000000 in
theorem rright_5 (o n i m : Int) (h1 : decide (0 ≤ o) = true) (h2 : decide (o ≤ 2) = true) (h3 : decide (0 ≤ i) = true) (h4 : decide (i ≤ 2) = true) (h5 : ((n == 0) == (o == 0)) = true) (h6 : ((m == 0) == (i == 0)) = false) (w : World) :
    Calls Try.prog 24 #[.agg #[.int .i64 o, .int .u64 n, .int .i64 i, .int .u64 m]] w fun e w' => e = .returned (.bool false) ∧ w' = w.alloc (.cells #[.int .i64 o, .int .u64 n, .int .i64 i, .int .u64 m] 25) := by
  go_enter Try.func24, Try.ntmps24
  go_wp2_with fail
  go_ret
  exact ⟨rfl, rfl⟩

set_option maxHeartbeats 1000000 in
theorem rright_6 (o n i m : Int) (h1 : decide (0 ≤ o) = true) (h2 : decide (o ≤ 2) = true) (h3 : decide (0 ≤ i) = true) (h4 : decide (i ≤ 2) = true) (h5 : ((n == 0) == (o == 0)) = true) (h6 : ((m == 0) == (i == 0)) = true) (w : World) :
    Calls Try.prog 24 #[.agg #[.int .i64 o, .int .u64 n, .int .i64 i, .int .u64 m]] w fun e w' => e = .returned (.bool true) ∧ w' = w.alloc (.cells #[.int .i64 o, .int .u64 n, .int .i64 i, .int .u64 m] 25) := by
  go_enter Try.func24, Try.ntmps24
  go_wp2_with fail
  go_ret
  exact ⟨rfl, rfl⟩

theorem rright_any (o n i m : Int) (w : World) :
    Calls Try.prog 24 #[.agg #[.int .i64 o, .int .u64 n, .int .i64 i, .int .u64 m]] w fun e w' => e = .returned (.bool (sideB o n && sideB i m)) ∧ w' = w.alloc (.cells #[.int .i64 o, .int .u64 n, .int .i64 i, .int .u64 m] 25) := by
  unfold sideB
  rw [show ((o == 0) == (n == 0)) = ((n == 0) == (o == 0)) from Bool.beq_comm, show ((i == 0) == (m == 0)) = ((m == 0) == (i == 0)) from Bool.beq_comm]
  cases h1 : decide (0 ≤ o)
  · simpa using rright_0 o n i m h1 w
  cases h2 : decide (o ≤ 2)
  · simpa using rright_1 o n i m h1 h2 w
  cases h3 : decide (0 ≤ i)
  · simpa using rright_2 o n i m h1 h2 h3 w
  cases h4 : decide (i ≤ 2)
  · simpa using rright_3 o n i m h1 h2 h3 h4 w
  cases h5 : ((n == 0) == (o == 0))
  · simpa using rright_4 o n i m h1 h2 h3 h4 h5 w
  cases h6 : ((m == 0) == (i == 0))
  · simpa using rright_5 o n i m h1 h2 h3 h4 h5 h6 w
  simpa using rright_6 o n i m h1 h2 h3 h4 h5 h6 w

set_option maxHeartbeats 1000000 in
theorem ract_wrong (o hn i m k n : Int) (hr : (sideB o hn && sideB i m) = false) (w : World) :
    Calls Try.prog 10 #[Half.val ⟨o, hn, i, m⟩, .int .i64 k, .int .u64 n] w fun e w' => e = .returned (actV (none)) ∧ Below w.heap.size w w' := by
  have H := Lib.hid hr
  clear hr
  go_enter Try.func10, Try.ntmps10
  go_wp2_with fail
  refine (rright_any _ _ _ _ _).mono ?_
  rintro e w' ⟨rfl, rfl⟩
  rw [H.out]
  go_wp2_with fail
  exact bodyPost_ret (v := .tuple #[.agg #[.int .i64 0, .int .u64 0, .int .i64 0, .int .u64 0], .int .i64 0, .int .u64 0, .int .i64 1]) (by simp [results, Try.results10, go_sem]) rfl ⟨rfl, by repeat (first | exact Below.refl _ _ | assumption | refine Below.drew ?_ | refine Below.alloc ?_ (by first | omega | (simp; omega) | simp) _)⟩

set_option maxHeartbeats 1000000 in
theorem ract_ask0 (o hn i m : Int) (hr : (sideB o hn && sideB i m) = true) (w : World) :
    Calls Try.prog 10 #[Half.val ⟨o, hn, i, m⟩, .int .i64 11, .int .u64 0] w fun e w' => e = .returned (actV (none)) ∧ Below w.heap.size w w' := by
  have H := Lib.hid hr
  clear hr
  go_enter Try.func10, Try.ntmps10
  go_wp2_with fail
  refine (rright_any _ _ _ _ _).mono ?_
  rintro e w' ⟨rfl, rfl⟩
  rw [H.out]
  go_wp2_with fail
  exact bodyPost_ret (v := .tuple #[.agg #[.int .i64 0, .int .u64 0, .int .i64 0, .int .u64 0], .int .i64 0, .int .u64 0, .int .i64 1]) (by simp [results, Try.results10, go_sem]) rfl ⟨rfl, by repeat (first | exact Below.refl _ _ | assumption | refine Below.drew ?_ | refine Below.alloc ?_ (by first | omega | (simp; omega) | simp) _)⟩

set_option maxHeartbeats 1000000 in
theorem ract_ask (hn i m n : Int) (hr : (sideB 0 hn && sideB i m) = true) (h0 : n ≠ 0) (w : World) :
    Calls Try.prog 10 #[Half.val ⟨0, hn, i, m⟩, .int .i64 11, .int .u64 n] w fun e w' => e = .returned (actV (some (⟨1, n, i, m⟩, 1, n))) ∧ Below w.heap.size w w' := by
  have H := Lib.hid hr
  clear hr
  have e_n : (n == 0) = false := by simp [h0]
  clear h0
  go_enter Try.func10, Try.ntmps10
  go_wp2_with fail
  refine (rright_any _ _ _ _ _).mono ?_
  rintro e w' ⟨rfl, rfl⟩
  rw [H.out]
  go_wp2_with fail
  exact bodyPost_ret (v := .tuple #[Half.val ⟨1, n, i, m⟩, .int .i64 1, .int .u64 n, .int .i64 0]) (by simp [results, Try.results10, go_sem]) rfl ⟨rfl, by repeat (first | exact Below.refl _ _ | assumption | refine Below.drew ?_ | refine Below.alloc ?_ (by first | omega | (simp; omega) | simp) _)⟩

set_option maxHeartbeats 1000000 in
theorem ract_ask_no (o hn i m n : Int) (hr : (sideB o hn && sideB i m) = true) (h0 : n ≠ 0) (h1 : o ≠ 0) (w : World) :
    Calls Try.prog 10 #[Half.val ⟨o, hn, i, m⟩, .int .i64 11, .int .u64 n] w fun e w' => e = .returned (actV (some (⟨o, hn, i, m⟩, 0, 0))) ∧ Below w.heap.size w w' := by
  have H := Lib.hid hr
  clear hr
  have e_n : (n == 0) = false := by simp [h0]
  have e_o : (o == 0) = false := by simp [h1]
  clear h0 h1
  go_enter Try.func10, Try.ntmps10
  go_wp2_with fail
  refine (rright_any _ _ _ _ _).mono ?_
  rintro e w' ⟨rfl, rfl⟩
  rw [H.out]
  go_wp2_with fail
  exact bodyPost_ret (v := .tuple #[Half.val ⟨o, hn, i, m⟩, .int .i64 0, .int .u64 0, .int .i64 0]) (by simp [results, Try.results10, go_sem]) rfl ⟨rfl, by repeat (first | exact Below.refl _ _ | assumption | refine Below.drew ?_ | refine Below.alloc ?_ (by first | omega | (simp; omega) | simp) _)⟩

set_option maxHeartbeats 1000000 in
theorem ract_leave (o hn i m n : Int) (hr : (sideB o hn && sideB i m) = true) (h1 : o ≠ 0) (w : World) :
    Calls Try.prog 10 #[Half.val ⟨o, hn, i, m⟩, .int .i64 13, .int .u64 n] w fun e w' => e = .returned (actV (some (⟨0, 0, i, m⟩, 2, hn))) ∧ Below w.heap.size w w' := by
  have H := Lib.hid hr
  clear hr
  have e_o : (o != 0) = true := by simp [h1]
  clear h1
  go_enter Try.func10, Try.ntmps10
  go_wp2_with fail
  refine (rright_any _ _ _ _ _).mono ?_
  rintro e w' ⟨rfl, rfl⟩
  rw [H.out]
  go_wp2_with fail
  exact bodyPost_ret (v := .tuple #[Half.val ⟨0, 0, i, m⟩, .int .i64 2, .int .u64 hn, .int .i64 0]) (by simp [results, Try.results10, go_sem]) rfl ⟨rfl, by repeat (first | exact Below.refl _ _ | assumption | refine Below.drew ?_ | refine Below.alloc ?_ (by first | omega | (simp; omega) | simp) _)⟩

set_option maxHeartbeats 1000000 in
theorem ract_leave_no (hn i m n : Int) (hr : (sideB 0 hn && sideB i m) = true) (w : World) :
    Calls Try.prog 10 #[Half.val ⟨0, hn, i, m⟩, .int .i64 13, .int .u64 n] w fun e w' => e = .returned (actV (some (⟨0, hn, i, m⟩, 0, 0))) ∧ Below w.heap.size w w' := by
  have H := Lib.hid hr
  clear hr
  go_enter Try.func10, Try.ntmps10
  go_wp2_with fail
  refine (rright_any _ _ _ _ _).mono ?_
  rintro e w' ⟨rfl, rfl⟩
  rw [H.out]
  go_wp2_with fail
  exact bodyPost_ret (v := .tuple #[Half.val ⟨0, hn, i, m⟩, .int .i64 0, .int .u64 0, .int .i64 0]) (by simp [results, Try.results10, go_sem]) rfl ⟨rfl, by repeat (first | exact Below.refl _ _ | assumption | refine Below.drew ?_ | refine Below.alloc ?_ (by first | omega | (simp; omega) | simp) _)⟩

set_option maxHeartbeats 1000000 in
theorem ract_grant (o hn m n : Int) (hr : (sideB o hn && sideB 1 m) = true) (w : World) :
    Calls Try.prog 10 #[Half.val ⟨o, hn, 1, m⟩, .int .i64 12, .int .u64 n] w fun e w' => e = .returned (actV (some (⟨o, hn, 2, m⟩, 3, m))) ∧ Below w.heap.size w w' := by
  have H := Lib.hid hr
  clear hr
  go_enter Try.func10, Try.ntmps10
  go_wp2_with fail
  refine (rright_any _ _ _ _ _).mono ?_
  rintro e w' ⟨rfl, rfl⟩
  rw [H.out]
  go_wp2_with fail
  go_region
  go_wp2_with fail
  exact bodyPost_ret (v := .tuple #[Half.val ⟨o, hn, 2, m⟩, .int .i64 3, .int .u64 m, .int .i64 0]) (by simp [results, Try.results10, go_sem]) rfl ⟨rfl, by repeat (first | exact Below.refl _ _ | assumption | refine Below.drew ?_ | refine Below.alloc ?_ (by first | omega | (simp; omega) | simp) _)⟩

set_option maxHeartbeats 1000000 in
theorem ract_grant_no (o hn i m n : Int) (hr : (sideB o hn && sideB i m) = true) (h1 : i ≠ 1) (w : World) :
    Calls Try.prog 10 #[Half.val ⟨o, hn, i, m⟩, .int .i64 12, .int .u64 n] w fun e w' => e = .returned (actV (some (⟨o, hn, i, m⟩, 0, 0))) ∧ Below w.heap.size w w' := by
  have H := Lib.hid hr
  clear hr
  have e_i : (i == 1) = false := by simp [h1]
  clear h1
  go_enter Try.func10, Try.ntmps10
  go_wp2_with fail
  refine (rright_any _ _ _ _ _).mono ?_
  rintro e w' ⟨rfl, rfl⟩
  rw [H.out]
  go_wp2_with fail
  exact bodyPost_ret (v := .tuple #[Half.val ⟨o, hn, i, m⟩, .int .i64 0, .int .u64 0, .int .i64 0]) (by simp [results, Try.results10, go_sem]) rfl ⟨rfl, by repeat (first | exact Below.refl _ _ | assumption | refine Below.drew ?_ | refine Below.alloc ?_ (by first | omega | (simp; omega) | simp) _)⟩

set_option maxHeartbeats 1000000 in
theorem ract_deny (o hn i m n : Int) (hr : (sideB o hn && sideB i m) = true) (h1 : i ≠ 0) (w : World) :
    Calls Try.prog 10 #[Half.val ⟨o, hn, i, m⟩, .int .i64 14, .int .u64 n] w fun e w' => e = .returned (actV (some (⟨o, hn, 0, 0⟩, 4, m))) ∧ Below w.heap.size w w' := by
  have H := Lib.hid hr
  clear hr
  have e_i : (i != 0) = true := by simp [h1]
  clear h1
  go_enter Try.func10, Try.ntmps10
  go_wp2_with fail
  refine (rright_any _ _ _ _ _).mono ?_
  rintro e w' ⟨rfl, rfl⟩
  rw [H.out]
  go_wp2_with fail
  exact bodyPost_ret (v := .tuple #[Half.val ⟨o, hn, 0, 0⟩, .int .i64 4, .int .u64 m, .int .i64 0]) (by simp [results, Try.results10, go_sem]) rfl ⟨rfl, by repeat (first | exact Below.refl _ _ | assumption | refine Below.drew ?_ | refine Below.alloc ?_ (by first | omega | (simp; omega) | simp) _)⟩

set_option maxHeartbeats 1000000 in
theorem ract_deny_no (o hn m n : Int) (hr : (sideB o hn && sideB 0 m) = true) (w : World) :
    Calls Try.prog 10 #[Half.val ⟨o, hn, 0, m⟩, .int .i64 14, .int .u64 n] w fun e w' => e = .returned (actV (some (⟨o, hn, 0, m⟩, 0, 0))) ∧ Below w.heap.size w w' := by
  have H := Lib.hid hr
  clear hr
  go_enter Try.func10, Try.ntmps10
  go_wp2_with fail
  refine (rright_any _ _ _ _ _).mono ?_
  rintro e w' ⟨rfl, rfl⟩
  rw [H.out]
  go_wp2_with fail
  exact bodyPost_ret (v := .tuple #[Half.val ⟨o, hn, 0, m⟩, .int .i64 0, .int .u64 0, .int .i64 0]) (by simp [results, Try.results10, go_sem]) rfl ⟨rfl, by repeat (first | exact Below.refl _ _ | assumption | refine Below.drew ?_ | refine Below.alloc ?_ (by first | omega | (simp; omega) | simp) _)⟩

set_option maxHeartbeats 1000000 in
theorem ract_low (o hn i m k n : Int) (hr : (sideB o hn && sideB i m) = true) (h1 : decide (k < 11) = true) (w : World) :
    Calls Try.prog 10 #[Half.val ⟨o, hn, i, m⟩, .int .i64 k, .int .u64 n] w fun e w' => e = .returned (actV (none)) ∧ Below w.heap.size w w' := by
  have H := Lib.hid hr
  clear hr
  go_enter Try.func10, Try.ntmps10
  go_wp2_with fail
  refine (rright_any _ _ _ _ _).mono ?_
  rintro e w' ⟨rfl, rfl⟩
  rw [H.out]
  go_wp2_with fail
  exact bodyPost_ret (v := .tuple #[.agg #[.int .i64 0, .int .u64 0, .int .i64 0, .int .u64 0], .int .i64 0, .int .u64 0, .int .i64 1]) (by simp [results, Try.results10, go_sem]) rfl ⟨rfl, by repeat (first | exact Below.refl _ _ | assumption | refine Below.drew ?_ | refine Below.alloc ?_ (by first | omega | (simp; omega) | simp) _)⟩

set_option maxHeartbeats 1000000 in
theorem ract_high (o hn i m k n : Int) (hr : (sideB o hn && sideB i m) = true) (h0 : decide (k < 11) = false) (h1 : decide (14 < k) = true) (w : World) :
    Calls Try.prog 10 #[Half.val ⟨o, hn, i, m⟩, .int .i64 k, .int .u64 n] w fun e w' => e = .returned (actV (none)) ∧ Below w.heap.size w w' := by
  have H := Lib.hid hr
  clear hr
  go_enter Try.func10, Try.ntmps10
  go_wp2_with fail
  refine (rright_any _ _ _ _ _).mono ?_
  rintro e w' ⟨rfl, rfl⟩
  rw [H.out]
  go_wp2_with fail
  exact bodyPost_ret (v := .tuple #[.agg #[.int .i64 0, .int .u64 0, .int .i64 0, .int .u64 0], .int .i64 0, .int .u64 0, .int .i64 1]) (by simp [results, Try.results10, go_sem]) rfl ⟨rfl, by repeat (first | exact Below.refl _ _ | assumption | refine Below.drew ?_ | refine Below.alloc ?_ (by first | omega | (simp; omega) | simp) _)⟩

theorem ract_any (h : Half) (k n : Int) (w : World) :
    Calls Try.prog 10 #[h.val, .int .i64 k, .int .u64 n] w fun e w' => e = .returned (actV (actS h k n)) ∧ Below w.heap.size w w' := by
  obtain ⟨o, hn, i, m⟩ := h
  unfold actS rightB
  by_cases hr : (sideB o hn && sideB i m) = false
  · rw [if_pos hr]; exact ract_wrong o hn i m k n hr w
  · rw [if_neg hr]
    replace hr : (sideB o hn && sideB i m) = true := by simpa using hr
    by_cases h11 : k = 11
    · subst h11
      rw [if_pos rfl]
      by_cases hn0 : n = 0
      · subst hn0; exact ract_ask0 o hn i m hr w
      · rw [if_neg hn0]
        by_cases ho : o = 0
        · subst ho; exact ract_ask hn i m n hr hn0 w
        · rw [if_neg ho]; exact ract_ask_no o hn i m n hr hn0 ho w
    · rw [if_neg h11]
      by_cases h13 : k = 13
      · subst h13
        rw [if_pos rfl]
        by_cases ho : o = 0
        · subst ho; exact ract_leave_no hn i m n hr w
        · rw [if_neg ho]; exact ract_leave o hn i m n hr ho w
      · rw [if_neg h13]
        by_cases h12 : k = 12
        · subst h12
          rw [if_pos rfl]
          by_cases hi : i = 1
          · subst hi; exact ract_grant o hn m n hr w
          · rw [if_neg hi]; exact ract_grant_no o hn i m n hr hi w
        · rw [if_neg h12]
          by_cases h14 : k = 14
          · subst h14
            rw [if_pos rfl]
            by_cases hi : i = 0
            · subst hi; exact ract_deny_no o hn m n hr w
            · rw [if_neg hi]; exact ract_deny o hn i m n hr hi w
          · rw [if_neg h14]
            by_cases hk : k < 11
            · exact ract_low o hn i m k n hr (by simpa using hk) w
            · exact ract_high o hn i m k n hr (by simpa using hk) (by simp; omega) w

set_option maxHeartbeats 1000000 in
theorem rhear_wrong (o hn i m k n : Int) (hr : (sideB o hn && sideB i m) = false) (w : World) :
    Calls Try.prog 11 #[Half.val ⟨o, hn, i, m⟩, .int .i64 k, .int .u64 n] w fun e w' => e = .returned (hearV (none)) ∧ Below w.heap.size w w' := by
  have H := Lib.hid hr
  clear hr
  go_enter Try.func11, Try.ntmps11
  go_wp2_with fail
  refine (rright_any _ _ _ _ _).mono ?_
  rintro e w' ⟨rfl, rfl⟩
  rw [H.out]
  go_wp2_with fail
  exact bodyPost_ret (v := .tuple #[.agg #[.int .i64 0, .int .u64 0, .int .i64 0, .int .u64 0], .int .i64 0, .int .i64 1]) (by simp [results, Try.results11, go_sem]) rfl ⟨rfl, by repeat (first | exact Below.refl _ _ | assumption | refine Below.drew ?_ | refine Below.alloc ?_ (by first | omega | (simp; omega) | simp) _)⟩

set_option maxHeartbeats 1000000 in
theorem rhear_low (o hn i m k n : Int) (hr : (sideB o hn && sideB i m) = true) (h1 : decide (k < 1) = true) (w : World) :
    Calls Try.prog 11 #[Half.val ⟨o, hn, i, m⟩, .int .i64 k, .int .u64 n] w fun e w' => e = .returned (hearV (none)) ∧ Below w.heap.size w w' := by
  have H := Lib.hid hr
  clear hr
  go_enter Try.func11, Try.ntmps11
  go_wp2_with fail
  refine (rright_any _ _ _ _ _).mono ?_
  rintro e w' ⟨rfl, rfl⟩
  rw [H.out]
  go_wp2_with fail
  exact bodyPost_ret (v := .tuple #[.agg #[.int .i64 0, .int .u64 0, .int .i64 0, .int .u64 0], .int .i64 0, .int .i64 1]) (by simp [results, Try.results11, go_sem]) rfl ⟨rfl, by repeat (first | exact Below.refl _ _ | assumption | refine Below.drew ?_ | refine Below.alloc ?_ (by first | omega | (simp; omega) | simp) _)⟩

set_option maxHeartbeats 1000000 in
theorem rhear_high (o hn i m k n : Int) (hr : (sideB o hn && sideB i m) = true) (h0 : decide (k < 1) = false) (h1 : decide (4 < k) = true) (w : World) :
    Calls Try.prog 11 #[Half.val ⟨o, hn, i, m⟩, .int .i64 k, .int .u64 n] w fun e w' => e = .returned (hearV (none)) ∧ Below w.heap.size w w' := by
  have H := Lib.hid hr
  clear hr
  go_enter Try.func11, Try.ntmps11
  go_wp2_with fail
  refine (rright_any _ _ _ _ _).mono ?_
  rintro e w' ⟨rfl, rfl⟩
  rw [H.out]
  go_wp2_with fail
  exact bodyPost_ret (v := .tuple #[.agg #[.int .i64 0, .int .u64 0, .int .i64 0, .int .u64 0], .int .i64 0, .int .i64 1]) (by simp [results, Try.results11, go_sem]) rfl ⟨rfl, by repeat (first | exact Below.refl _ _ | assumption | refine Below.drew ?_ | refine Below.alloc ?_ (by first | omega | (simp; omega) | simp) _)⟩

set_option maxHeartbeats 1000000 in
theorem rhear_zero (o hn i m k : Int) (hr : (sideB o hn && sideB i m) = true) (h0 : decide (k < 1) = false) (h1 : decide (4 < k) = false) (w : World) :
    Calls Try.prog 11 #[Half.val ⟨o, hn, i, m⟩, .int .i64 k, .int .u64 0] w fun e w' => e = .returned (hearV (none)) ∧ Below w.heap.size w w' := by
  have H := Lib.hid hr
  clear hr
  go_enter Try.func11, Try.ntmps11
  go_wp2_with fail
  refine (rright_any _ _ _ _ _).mono ?_
  rintro e w' ⟨rfl, rfl⟩
  rw [H.out]
  go_wp2_with fail
  exact bodyPost_ret (v := .tuple #[.agg #[.int .i64 0, .int .u64 0, .int .i64 0, .int .u64 0], .int .i64 0, .int .i64 1]) (by simp [results, Try.results11, go_sem]) rfl ⟨rfl, by repeat (first | exact Below.refl _ _ | assumption | refine Below.drew ?_ | refine Below.alloc ?_ (by first | omega | (simp; omega) | simp) _)⟩

set_option maxHeartbeats 1000000 in
theorem rhear_ask (o hn i m n : Int) (hr : (sideB o hn && sideB i m) = true) (h0 : n ≠ 0) (w : World) :
    Calls Try.prog 11 #[Half.val ⟨o, hn, i, m⟩, .int .i64 1, .int .u64 n] w fun e w' => e = .returned (hearV (some (⟨o, hn, 1, n⟩, 42))) ∧ Below w.heap.size w w' := by
  have H := Lib.hid hr
  clear hr
  have e_n : (n == 0) = false := by simp [h0]
  clear h0
  go_enter Try.func11, Try.ntmps11
  go_wp2_with fail
  refine (rright_any _ _ _ _ _).mono ?_
  rintro e w' ⟨rfl, rfl⟩
  rw [H.out]
  go_wp2_with fail
  exact bodyPost_ret (v := .tuple #[Half.val ⟨o, hn, 1, n⟩, .int .i64 42, .int .i64 0]) (by simp [results, Try.results11, go_sem]) rfl ⟨rfl, by repeat (first | exact Below.refl _ _ | assumption | refine Below.drew ?_ | refine Below.alloc ?_ (by first | omega | (simp; omega) | simp) _)⟩

set_option maxHeartbeats 1000000 in
theorem rhear_leave (o hn i n : Int) (hr : (sideB o hn && sideB i n) = true) (h0 : n ≠ 0) (h1 : i ≠ 0) (w : World) :
    Calls Try.prog 11 #[Half.val ⟨o, hn, i, n⟩, .int .i64 2, .int .u64 n] w fun e w' => e = .returned (hearV (some (⟨o, hn, 0, 0⟩, 44))) ∧ Below w.heap.size w w' := by
  have H := Lib.hid hr
  clear hr
  have e_n : (n == 0) = false := by simp [h0]
  clear h0
  have e_i : (i != 0) = true := by simp [h1]
  clear h1
  go_enter Try.func11, Try.ntmps11
  go_wp2_with fail
  refine (rright_any _ _ _ _ _).mono ?_
  rintro e w' ⟨rfl, rfl⟩
  rw [H.out]
  go_wp2_with fail
  exact bodyPost_ret (v := .tuple #[Half.val ⟨o, hn, 0, 0⟩, .int .i64 44, .int .i64 0]) (by simp [results, Try.results11, go_sem]) rfl ⟨rfl, by repeat (first | exact Below.refl _ _ | assumption | refine Below.drew ?_ | refine Below.alloc ?_ (by first | omega | (simp; omega) | simp) _)⟩

set_option maxHeartbeats 1000000 in
theorem rhear_leave_no (o hn i m n : Int) (hr : (sideB o hn && sideB i m) = true) (h0 : n ≠ 0) (h1 : m ≠ n) (h2 : i ≠ 0) (w : World) :
    Calls Try.prog 11 #[Half.val ⟨o, hn, i, m⟩, .int .i64 2, .int .u64 n] w fun e w' => e = .returned (hearV (some (⟨o, hn, i, m⟩, 0))) ∧ Below w.heap.size w w' := by
  have H := Lib.hid hr
  clear hr
  have e_m : (m == n) = false := by simp [h1]
  clear h1
  have e_n : (n == 0) = false := by simp [h0]
  clear h0
  have e_i : (i != 0) = true := by simp [h2]
  clear h2
  go_enter Try.func11, Try.ntmps11
  go_wp2_with fail
  refine (rright_any _ _ _ _ _).mono ?_
  rintro e w' ⟨rfl, rfl⟩
  rw [H.out]
  go_wp2_with fail
  exact bodyPost_ret (v := .tuple #[Half.val ⟨o, hn, i, m⟩, .int .i64 0, .int .i64 0]) (by simp [results, Try.results11, go_sem]) rfl ⟨rfl, by repeat (first | exact Below.refl _ _ | assumption | refine Below.drew ?_ | refine Below.alloc ?_ (by first | omega | (simp; omega) | simp) _)⟩

set_option maxHeartbeats 1000000 in
theorem rhear_leave_none (o hn m n : Int) (hr : (sideB o hn && sideB 0 m) = true) (h0 : n ≠ 0) (w : World) :
    Calls Try.prog 11 #[Half.val ⟨o, hn, 0, m⟩, .int .i64 2, .int .u64 n] w fun e w' => e = .returned (hearV (some (⟨o, hn, 0, m⟩, 0))) ∧ Below w.heap.size w w' := by
  have H := Lib.hid hr
  clear hr
  have e_n : (n == 0) = false := by simp [h0]
  clear h0
  go_enter Try.func11, Try.ntmps11
  go_wp2_with fail
  refine (rright_any _ _ _ _ _).mono ?_
  rintro e w' ⟨rfl, rfl⟩
  rw [H.out]
  go_wp2_with fail
  exact bodyPost_ret (v := .tuple #[Half.val ⟨o, hn, 0, m⟩, .int .i64 0, .int .i64 0]) (by simp [results, Try.results11, go_sem]) rfl ⟨rfl, by repeat (first | exact Below.refl _ _ | assumption | refine Below.drew ?_ | refine Below.alloc ?_ (by first | omega | (simp; omega) | simp) _)⟩

set_option maxHeartbeats 1000000 in
theorem rhear_grant (i m n : Int) (hr : (sideB 1 n && sideB i m) = true) (h0 : n ≠ 0) (w : World) :
    Calls Try.prog 11 #[Half.val ⟨1, n, i, m⟩, .int .i64 3, .int .u64 n] w fun e w' => e = .returned (hearV (some (⟨2, n, i, m⟩, 43))) ∧ Below w.heap.size w w' := by
  have H := Lib.hid hr
  clear hr
  have e_n : (n == 0) = false := by simp [h0]
  clear h0
  go_enter Try.func11, Try.ntmps11
  go_wp2_with fail
  refine (rright_any _ _ _ _ _).mono ?_
  rintro e w' ⟨rfl, rfl⟩
  rw [H.out]
  go_wp2_with fail
  exact bodyPost_ret (v := .tuple #[Half.val ⟨2, n, i, m⟩, .int .i64 43, .int .i64 0]) (by simp [results, Try.results11, go_sem]) rfl ⟨rfl, by repeat (first | exact Below.refl _ _ | assumption | refine Below.drew ?_ | refine Below.alloc ?_ (by first | omega | (simp; omega) | simp) _)⟩

set_option maxHeartbeats 1000000 in
theorem rhear_grant_no (hn i m n : Int) (hr : (sideB 1 hn && sideB i m) = true) (h0 : n ≠ 0) (h1 : hn ≠ n) (w : World) :
    Calls Try.prog 11 #[Half.val ⟨1, hn, i, m⟩, .int .i64 3, .int .u64 n] w fun e w' => e = .returned (hearV (some (⟨1, hn, i, m⟩, 0))) ∧ Below w.heap.size w w' := by
  have H := Lib.hid hr
  clear hr
  have e_m : (hn == n) = false := by simp [h1]
  clear h1
  have e_n : (n == 0) = false := by simp [h0]
  clear h0
  go_enter Try.func11, Try.ntmps11
  go_wp2_with fail
  refine (rright_any _ _ _ _ _).mono ?_
  rintro e w' ⟨rfl, rfl⟩
  rw [H.out]
  go_wp2_with fail
  exact bodyPost_ret (v := .tuple #[Half.val ⟨1, hn, i, m⟩, .int .i64 0, .int .i64 0]) (by simp [results, Try.results11, go_sem]) rfl ⟨rfl, by repeat (first | exact Below.refl _ _ | assumption | refine Below.drew ?_ | refine Below.alloc ?_ (by first | omega | (simp; omega) | simp) _)⟩

set_option maxHeartbeats 1000000 in
theorem rhear_grant_out (o hn i m n : Int) (hr : (sideB o hn && sideB i m) = true) (h0 : n ≠ 0) (h1 : o ≠ 1) (w : World) :
    Calls Try.prog 11 #[Half.val ⟨o, hn, i, m⟩, .int .i64 3, .int .u64 n] w fun e w' => e = .returned (hearV (some (⟨o, hn, i, m⟩, 0))) ∧ Below w.heap.size w w' := by
  have H := Lib.hid hr
  clear hr
  have e_o : (o == 1) = false := by simp [h1]
  clear h1
  have e_n : (n == 0) = false := by simp [h0]
  clear h0
  go_enter Try.func11, Try.ntmps11
  go_wp2_with fail
  refine (rright_any _ _ _ _ _).mono ?_
  rintro e w' ⟨rfl, rfl⟩
  rw [H.out]
  go_wp2_with fail
  exact bodyPost_ret (v := .tuple #[Half.val ⟨o, hn, i, m⟩, .int .i64 0, .int .i64 0]) (by simp [results, Try.results11, go_sem]) rfl ⟨rfl, by repeat (first | exact Below.refl _ _ | assumption | refine Below.drew ?_ | refine Below.alloc ?_ (by first | omega | (simp; omega) | simp) _)⟩

set_option maxHeartbeats 1000000 in
theorem rhear_deny (o i m n : Int) (hr : (sideB o n && sideB i m) = true) (h0 : n ≠ 0) (h1 : o ≠ 0) (w : World) :
    Calls Try.prog 11 #[Half.val ⟨o, n, i, m⟩, .int .i64 4, .int .u64 n] w fun e w' => e = .returned (hearV (some (⟨0, 0, i, m⟩, 45))) ∧ Below w.heap.size w w' := by
  have H := Lib.hid hr
  clear hr
  have e_n : (n == 0) = false := by simp [h0]
  clear h0
  have e_o : (o != 0) = true := by simp [h1]
  clear h1
  go_enter Try.func11, Try.ntmps11
  go_wp2_with fail
  refine (rright_any _ _ _ _ _).mono ?_
  rintro e w' ⟨rfl, rfl⟩
  rw [H.out]
  go_wp2_with fail
  exact bodyPost_ret (v := .tuple #[Half.val ⟨0, 0, i, m⟩, .int .i64 45, .int .i64 0]) (by simp [results, Try.results11, go_sem]) rfl ⟨rfl, by repeat (first | exact Below.refl _ _ | assumption | refine Below.drew ?_ | refine Below.alloc ?_ (by first | omega | (simp; omega) | simp) _)⟩

set_option maxHeartbeats 1000000 in
theorem rhear_deny_no (o hn i m n : Int) (hr : (sideB o hn && sideB i m) = true) (h0 : n ≠ 0) (h1 : hn ≠ n) (h2 : o ≠ 0) (w : World) :
    Calls Try.prog 11 #[Half.val ⟨o, hn, i, m⟩, .int .i64 4, .int .u64 n] w fun e w' => e = .returned (hearV (some (⟨o, hn, i, m⟩, 0))) ∧ Below w.heap.size w w' := by
  have H := Lib.hid hr
  clear hr
  have e_m : (hn == n) = false := by simp [h1]
  clear h1
  have e_n : (n == 0) = false := by simp [h0]
  clear h0
  have e_o : (o != 0) = true := by simp [h2]
  clear h2
  go_enter Try.func11, Try.ntmps11
  go_wp2_with fail
  refine (rright_any _ _ _ _ _).mono ?_
  rintro e w' ⟨rfl, rfl⟩
  rw [H.out]
  go_wp2_with fail
  exact bodyPost_ret (v := .tuple #[Half.val ⟨o, hn, i, m⟩, .int .i64 0, .int .i64 0]) (by simp [results, Try.results11, go_sem]) rfl ⟨rfl, by repeat (first | exact Below.refl _ _ | assumption | refine Below.drew ?_ | refine Below.alloc ?_ (by first | omega | (simp; omega) | simp) _)⟩

set_option maxHeartbeats 1000000 in
theorem rhear_deny_none (hn i m n : Int) (hr : (sideB 0 hn && sideB i m) = true) (h0 : n ≠ 0) (w : World) :
    Calls Try.prog 11 #[Half.val ⟨0, hn, i, m⟩, .int .i64 4, .int .u64 n] w fun e w' => e = .returned (hearV (some (⟨0, hn, i, m⟩, 0))) ∧ Below w.heap.size w w' := by
  have H := Lib.hid hr
  clear hr
  have e_n : (n == 0) = false := by simp [h0]
  clear h0
  go_enter Try.func11, Try.ntmps11
  go_wp2_with fail
  refine (rright_any _ _ _ _ _).mono ?_
  rintro e w' ⟨rfl, rfl⟩
  rw [H.out]
  go_wp2_with fail
  exact bodyPost_ret (v := .tuple #[Half.val ⟨0, hn, i, m⟩, .int .i64 0, .int .i64 0]) (by simp [results, Try.results11, go_sem]) rfl ⟨rfl, by repeat (first | exact Below.refl _ _ | assumption | refine Below.drew ?_ | refine Below.alloc ?_ (by first | omega | (simp; omega) | simp) _)⟩

theorem side_zero {s n : Int} (h : sideB s n = true) : s = 0 ↔ n = 0 := by
  unfold sideB at h
  simp at h
  have h3 := h.2
  constructor
  · intro hs; subst hs; simpa using h3
  · intro hn; subst hn; simpa using h3

theorem rhear_any (h : Half) (k n : Int) (w : World) :
    Calls Try.prog 11 #[h.val, .int .i64 k, .int .u64 n] w fun e w' => e = .returned (hearV (hearS h k n)) ∧ Below w.heap.size w w' := by
  obtain ⟨o, hn, i, m⟩ := h
  unfold hearS rightB
  by_cases hr : (sideB o hn && sideB i m) = false
  · rw [if_pos hr]; exact rhear_wrong o hn i m k n hr w
  · rw [if_neg hr]
    replace hr : (sideB o hn && sideB i m) = true := by simpa using hr
    have h2 := hr
    simp only [Bool.and_eq_true] at h2
    have z1 := side_zero h2.1
    have z2 := side_zero h2.2
    by_cases hk1 : k < 1
    · have e : (if n = 0 then (none : Option (Half × Int)) else if k = 1 then some (⟨o, hn, 1, n⟩, 42) else if k = 2 then (if m = n then some (⟨o, hn, 0, 0⟩, 44) else some (⟨o, hn, i, m⟩, 0)) else if k = 3 then (if o = 1 ∧ hn = n then some (⟨2, hn, i, m⟩, 43) else some (⟨o, hn, i, m⟩, 0)) else if k = 4 then (if hn = n then some (⟨0, 0, i, m⟩, 45) else some (⟨o, hn, i, m⟩, 0)) else none) = none := by
        rw [if_neg (by omega : ¬ k = 1), if_neg (by omega : ¬ k = 2), if_neg (by omega : ¬ k = 3), if_neg (by omega : ¬ k = 4)]; simp
      rw [e]
      exact rhear_low o hn i m k n hr (by simpa using hk1) w
    by_cases hk4 : 4 < k
    · have e : (if n = 0 then (none : Option (Half × Int)) else if k = 1 then some (⟨o, hn, 1, n⟩, 42) else if k = 2 then (if m = n then some (⟨o, hn, 0, 0⟩, 44) else some (⟨o, hn, i, m⟩, 0)) else if k = 3 then (if o = 1 ∧ hn = n then some (⟨2, hn, i, m⟩, 43) else some (⟨o, hn, i, m⟩, 0)) else if k = 4 then (if hn = n then some (⟨0, 0, i, m⟩, 45) else some (⟨o, hn, i, m⟩, 0)) else none) = none := by
        rw [if_neg (by omega : ¬ k = 1), if_neg (by omega : ¬ k = 2), if_neg (by omega : ¬ k = 3), if_neg (by omega : ¬ k = 4)]; simp
      rw [e]
      exact rhear_high o hn i m k n hr (by simpa using hk1) (by simpa using hk4) w
    by_cases hn0 : n = 0
    · subst hn0; rw [if_pos rfl]; exact rhear_zero o hn i m k hr (by simpa using hk1) (by simpa using hk4) w
    · rw [if_neg hn0]
      by_cases h1 : k = 1
      · subst h1; rw [if_pos rfl]; exact rhear_ask o hn i m n hr hn0 w
      · rw [if_neg h1]
        by_cases h2 : k = 2
        · subst h2
          rw [if_pos rfl]
          by_cases hm : m = n
          · subst hm; rw [if_pos rfl]; exact rhear_leave o hn i m hr hn0 (fun h => hn0 (z2.1 h)) w
          · rw [if_neg hm]
            by_cases hi : i = 0
            · subst hi; exact rhear_leave_none o hn m n hr hn0 w
            · exact rhear_leave_no o hn i m n hr hn0 hm hi w
        · rw [if_neg h2]
          by_cases h3 : k = 3
          · subst h3
            rw [if_pos rfl]
            by_cases ho : o = 1
            · subst ho
              by_cases hm : hn = n
              · subst hm; rw [if_pos ⟨rfl, rfl⟩]; exact rhear_grant i m hn hr hn0 w
              · rw [if_neg (fun h => hm h.2)]; exact rhear_grant_no hn i m n hr hn0 hm w
            · rw [if_neg (fun h => ho h.1)]; exact rhear_grant_out o hn i m n hr hn0 ho w
          · rw [if_neg h3]
            have h4 : k = 4 := by omega
            subst h4
            rw [if_pos rfl]
            by_cases hm : hn = n
            · subst hm; rw [if_pos rfl]; exact rhear_deny o i m hn hr hn0 (fun h => hn0 (z1.1 h)) w
            · rw [if_neg hm]
              by_cases ho : o = 0
              · subst ho; exact rhear_deny_none hn i m n hr hn0 w
              · exact rhear_deny_no o hn i m n hr hn0 hm ho w

set_option maxHeartbeats 1000000 in
theorem rstate_wrong (o hn i m : Int) (hr : (sideB o hn && sideB i m) = false) (w : World) :
    Calls Try.prog 14 #[Half.val ⟨o, hn, i, m⟩] w fun e w' => e = .returned (.string ⟨#[]⟩) ∧ Below w.heap.size w w' := by
  have H := Lib.hid hr
  clear hr
  go_enter Try.func14, Try.ntmps14
  go_wp2_with fail
  refine (rright_any _ _ _ _ _).mono ?_
  rintro e w' ⟨rfl, rfl⟩
  rw [H.out]
  go_wp2_with fail
  go_ret
  exact ⟨rfl, by repeat (first | exact Below.refl _ _ | assumption | refine Below.drew ?_ | refine Below.alloc ?_ (by first | omega | (simp; omega) | simp) _)⟩

set_option maxHeartbeats 1000000 in
theorem rstate_00 (hn m : Int) (hr : (sideB 0 hn && sideB 0 m) = true) (w : World) :
    Calls Try.prog 14 #[Half.val ⟨0, hn, 0, m⟩] w fun e w' => e = .returned (.string ⟨#[78, 111, 110, 101]⟩) ∧ Below w.heap.size w w' := by
  have H := Lib.hid hr
  clear hr
  go_enter Try.func14, Try.ntmps14
  go_wp2_with fail
  refine (rright_any _ _ _ _ _).mono ?_
  rintro e w' ⟨rfl, rfl⟩
  rw [H.out]
  go_wp2_with fail
  go_ret
  exact ⟨rfl, by repeat (first | exact Below.refl _ _ | assumption | refine Below.drew ?_ | refine Below.alloc ?_ (by first | omega | (simp; omega) | simp) _)⟩

set_option maxHeartbeats 1000000 in
theorem rstate_01 (hn m : Int) (hr : (sideB 0 hn && sideB 1 m) = true) (w : World) :
    Calls Try.prog 14 #[Half.val ⟨0, hn, 1, m⟩] w fun e w' => e = .returned (.string ⟨#[78, 111, 110, 101, 32, 43, 32, 80, 101, 110, 100, 105, 110, 103, 32, 73, 110]⟩) ∧ Below w.heap.size w w' := by
  have H := Lib.hid hr
  clear hr
  go_enter Try.func14, Try.ntmps14
  go_wp2_with fail
  refine (rright_any _ _ _ _ _).mono ?_
  rintro e w' ⟨rfl, rfl⟩
  rw [H.out]
  go_wp2_with fail
  go_ret
  exact ⟨rfl, by repeat (first | exact Below.refl _ _ | assumption | refine Below.drew ?_ | refine Below.alloc ?_ (by first | omega | (simp; omega) | simp) _)⟩

set_option maxHeartbeats 1000000 in
theorem rstate_02 (hn m : Int) (hr : (sideB 0 hn && sideB 2 m) = true) (w : World) :
    Calls Try.prog 14 #[Half.val ⟨0, hn, 2, m⟩] w fun e w' => e = .returned (.string ⟨#[70, 114, 111, 109]⟩) ∧ Below w.heap.size w w' := by
  have H := Lib.hid hr
  clear hr
  go_enter Try.func14, Try.ntmps14
  go_wp2_with fail
  refine (rright_any _ _ _ _ _).mono ?_
  rintro e w' ⟨rfl, rfl⟩
  rw [H.out]
  go_wp2_with fail
  go_ret
  exact ⟨rfl, by repeat (first | exact Below.refl _ _ | assumption | refine Below.drew ?_ | refine Below.alloc ?_ (by first | omega | (simp; omega) | simp) _)⟩

set_option maxHeartbeats 1000000 in
theorem rstate_10 (hn m : Int) (hr : (sideB 1 hn && sideB 0 m) = true) (w : World) :
    Calls Try.prog 14 #[Half.val ⟨1, hn, 0, m⟩] w fun e w' => e = .returned (.string ⟨#[78, 111, 110, 101, 32, 43, 32, 80, 101, 110, 100, 105, 110, 103, 32, 79, 117, 116]⟩) ∧ Below w.heap.size w w' := by
  have H := Lib.hid hr
  clear hr
  go_enter Try.func14, Try.ntmps14
  go_wp2_with fail
  refine (rright_any _ _ _ _ _).mono ?_
  rintro e w' ⟨rfl, rfl⟩
  rw [H.out]
  go_wp2_with fail
  go_ret
  exact ⟨rfl, by repeat (first | exact Below.refl _ _ | assumption | refine Below.drew ?_ | refine Below.alloc ?_ (by first | omega | (simp; omega) | simp) _)⟩

set_option maxHeartbeats 1000000 in
theorem rstate_11 (hn m : Int) (hr : (sideB 1 hn && sideB 1 m) = true) (w : World) :
    Calls Try.prog 14 #[Half.val ⟨1, hn, 1, m⟩] w fun e w' => e = .returned (.string ⟨#[78, 111, 110, 101, 32, 43, 32, 80, 101, 110, 100, 105, 110, 103, 32, 79, 117, 116, 43, 73, 110]⟩) ∧ Below w.heap.size w w' := by
  have H := Lib.hid hr
  clear hr
  go_enter Try.func14, Try.ntmps14
  go_wp2_with fail
  refine (rright_any _ _ _ _ _).mono ?_
  rintro e w' ⟨rfl, rfl⟩
  rw [H.out]
  go_wp2_with fail
  go_ret
  exact ⟨rfl, by repeat (first | exact Below.refl _ _ | assumption | refine Below.drew ?_ | refine Below.alloc ?_ (by first | omega | (simp; omega) | simp) _)⟩

set_option maxHeartbeats 1000000 in
theorem rstate_12 (hn m : Int) (hr : (sideB 1 hn && sideB 2 m) = true) (w : World) :
    Calls Try.prog 14 #[Half.val ⟨1, hn, 2, m⟩] w fun e w' => e = .returned (.string ⟨#[70, 114, 111, 109, 32, 43, 32, 80, 101, 110, 100, 105, 110, 103, 32, 79, 117, 116]⟩) ∧ Below w.heap.size w w' := by
  have H := Lib.hid hr
  clear hr
  go_enter Try.func14, Try.ntmps14
  go_wp2_with fail
  refine (rright_any _ _ _ _ _).mono ?_
  rintro e w' ⟨rfl, rfl⟩
  rw [H.out]
  go_wp2_with fail
  go_ret
  exact ⟨rfl, by repeat (first | exact Below.refl _ _ | assumption | refine Below.drew ?_ | refine Below.alloc ?_ (by first | omega | (simp; omega) | simp) _)⟩

set_option maxHeartbeats 1000000 in
theorem rstate_20 (hn m : Int) (hr : (sideB 2 hn && sideB 0 m) = true) (w : World) :
    Calls Try.prog 14 #[Half.val ⟨2, hn, 0, m⟩] w fun e w' => e = .returned (.string ⟨#[84, 111]⟩) ∧ Below w.heap.size w w' := by
  have H := Lib.hid hr
  clear hr
  go_enter Try.func14, Try.ntmps14
  go_wp2_with fail
  refine (rright_any _ _ _ _ _).mono ?_
  rintro e w' ⟨rfl, rfl⟩
  rw [H.out]
  go_wp2_with fail
  go_ret
  exact ⟨rfl, by repeat (first | exact Below.refl _ _ | assumption | refine Below.drew ?_ | refine Below.alloc ?_ (by first | omega | (simp; omega) | simp) _)⟩

set_option maxHeartbeats 1000000 in
theorem rstate_21 (hn m : Int) (hr : (sideB 2 hn && sideB 1 m) = true) (w : World) :
    Calls Try.prog 14 #[Half.val ⟨2, hn, 1, m⟩] w fun e w' => e = .returned (.string ⟨#[84, 111, 32, 43, 32, 80, 101, 110, 100, 105, 110, 103, 32, 73, 110]⟩) ∧ Below w.heap.size w w' := by
  have H := Lib.hid hr
  clear hr
  go_enter Try.func14, Try.ntmps14
  go_wp2_with fail
  refine (rright_any _ _ _ _ _).mono ?_
  rintro e w' ⟨rfl, rfl⟩
  rw [H.out]
  go_wp2_with fail
  go_ret
  exact ⟨rfl, by repeat (first | exact Below.refl _ _ | assumption | refine Below.drew ?_ | refine Below.alloc ?_ (by first | omega | (simp; omega) | simp) _)⟩

set_option maxHeartbeats 1000000 in
theorem rstate_22 (hn m : Int) (hr : (sideB 2 hn && sideB 2 m) = true) (w : World) :
    Calls Try.prog 14 #[Half.val ⟨2, hn, 2, m⟩] w fun e w' => e = .returned (.string ⟨#[66, 111, 116, 104]⟩) ∧ Below w.heap.size w w' := by
  have H := Lib.hid hr
  clear hr
  go_enter Try.func14, Try.ntmps14
  go_wp2_with fail
  refine (rright_any _ _ _ _ _).mono ?_
  rintro e w' ⟨rfl, rfl⟩
  rw [H.out]
  go_wp2_with fail
  go_ret
  exact ⟨rfl, by repeat (first | exact Below.refl _ _ | assumption | refine Below.drew ?_ | refine Below.alloc ?_ (by first | omega | (simp; omega) | simp) _)⟩

theorem rstate_any (h : Half) (w : World) :
    Calls Try.prog 14 #[h.val] w fun e w' => e = .returned (strV (stateS h)) ∧ Below w.heap.size w w' := by
  obtain ⟨o, hn, i, m⟩ := h
  unfold stateS rightB strV
  by_cases hr : (sideB o hn && sideB i m) = false
  · rw [if_pos hr]; exact rstate_wrong o hn i m hr w
  · rw [if_neg hr]
    replace hr : (sideB o hn && sideB i m) = true := by simpa using hr
    have h2 := hr
    simp only [Bool.and_eq_true] at h2
    rcases side_range h2.1 with rfl | rfl | rfl <;> rcases side_range h2.2 with rfl | rfl | rfl
    · exact rstate_00 hn m hr w
    · exact rstate_01 hn m hr w
    · exact rstate_02 hn m hr w
    · exact rstate_10 hn m hr w
    · exact rstate_11 hn m hr w
    · exact rstate_12 hn m hr w
    · exact rstate_20 hn m hr w
    · exact rstate_21 hn m hr w
    · exact rstate_22 hn m hr w

set_option maxHeartbeats 1000000 in
theorem rsub_wrong (o hn i m : Int) (hr : (sideB o hn && sideB i m) = false) (w : World) :
    Calls Try.prog 16 #[Half.val ⟨o, hn, i, m⟩] w fun e w' => e = .returned (.string ⟨#[]⟩) ∧ Below w.heap.size w w' := by
  have H := Lib.hid hr
  clear hr
  go_enter Try.func16, Try.ntmps16
  go_wp2_with fail
  refine (rright_any _ _ _ _ _).mono ?_
  rintro e w' ⟨rfl, rfl⟩
  rw [H.out]
  go_wp2_with fail
  go_ret
  exact ⟨rfl, by repeat (first | exact Below.refl _ _ | assumption | refine Below.drew ?_ | refine Below.alloc ?_ (by first | omega | (simp; omega) | simp) _)⟩

set_option maxHeartbeats 1000000 in
theorem rsub_00 (hn m : Int) (hr : (sideB 0 hn && sideB 0 m) = true) (w : World) :
    Calls Try.prog 16 #[Half.val ⟨0, hn, 0, m⟩] w fun e w' => e = .returned (.string ⟨#[110, 111, 110, 101]⟩) ∧ Below w.heap.size w w' := by
  have H := Lib.hid hr
  clear hr
  go_enter Try.func16, Try.ntmps16
  go_wp2_with fail
  refine (rright_any _ _ _ _ _).mono ?_
  rintro e w' ⟨rfl, rfl⟩
  rw [H.out]
  go_wp2_with fail
  go_ret
  exact ⟨rfl, by repeat (first | exact Below.refl _ _ | assumption | refine Below.drew ?_ | refine Below.alloc ?_ (by first | omega | (simp; omega) | simp) _)⟩

set_option maxHeartbeats 1000000 in
theorem rsub_01 (hn m : Int) (hr : (sideB 0 hn && sideB 1 m) = true) (w : World) :
    Calls Try.prog 16 #[Half.val ⟨0, hn, 1, m⟩] w fun e w' => e = .returned (.string ⟨#[110, 111, 110, 101]⟩) ∧ Below w.heap.size w w' := by
  have H := Lib.hid hr
  clear hr
  go_enter Try.func16, Try.ntmps16
  go_wp2_with fail
  refine (rright_any _ _ _ _ _).mono ?_
  rintro e w' ⟨rfl, rfl⟩
  rw [H.out]
  go_wp2_with fail
  go_ret
  exact ⟨rfl, by repeat (first | exact Below.refl _ _ | assumption | refine Below.drew ?_ | refine Below.alloc ?_ (by first | omega | (simp; omega) | simp) _)⟩

set_option maxHeartbeats 1000000 in
theorem rsub_02 (hn m : Int) (hr : (sideB 0 hn && sideB 2 m) = true) (w : World) :
    Calls Try.prog 16 #[Half.val ⟨0, hn, 2, m⟩] w fun e w' => e = .returned (.string ⟨#[102, 114, 111, 109]⟩) ∧ Below w.heap.size w w' := by
  have H := Lib.hid hr
  clear hr
  go_enter Try.func16, Try.ntmps16
  go_wp2_with fail
  refine (rright_any _ _ _ _ _).mono ?_
  rintro e w' ⟨rfl, rfl⟩
  rw [H.out]
  go_wp2_with fail
  go_ret
  exact ⟨rfl, by repeat (first | exact Below.refl _ _ | assumption | refine Below.drew ?_ | refine Below.alloc ?_ (by first | omega | (simp; omega) | simp) _)⟩

set_option maxHeartbeats 1000000 in
theorem rsub_10 (hn m : Int) (hr : (sideB 1 hn && sideB 0 m) = true) (w : World) :
    Calls Try.prog 16 #[Half.val ⟨1, hn, 0, m⟩] w fun e w' => e = .returned (.string ⟨#[110, 111, 110, 101, 44, 97, 115, 107]⟩) ∧ Below w.heap.size w w' := by
  have H := Lib.hid hr
  clear hr
  go_enter Try.func16, Try.ntmps16
  go_wp2_with fail
  refine (rright_any _ _ _ _ _).mono ?_
  rintro e w' ⟨rfl, rfl⟩
  rw [H.out]
  go_wp2_with fail
  go_ret
  exact ⟨rfl, by repeat (first | exact Below.refl _ _ | assumption | refine Below.drew ?_ | refine Below.alloc ?_ (by first | omega | (simp; omega) | simp) _)⟩

set_option maxHeartbeats 1000000 in
theorem rsub_11 (hn m : Int) (hr : (sideB 1 hn && sideB 1 m) = true) (w : World) :
    Calls Try.prog 16 #[Half.val ⟨1, hn, 1, m⟩] w fun e w' => e = .returned (.string ⟨#[110, 111, 110, 101, 44, 97, 115, 107]⟩) ∧ Below w.heap.size w w' := by
  have H := Lib.hid hr
  clear hr
  go_enter Try.func16, Try.ntmps16
  go_wp2_with fail
  refine (rright_any _ _ _ _ _).mono ?_
  rintro e w' ⟨rfl, rfl⟩
  rw [H.out]
  go_wp2_with fail
  go_ret
  exact ⟨rfl, by repeat (first | exact Below.refl _ _ | assumption | refine Below.drew ?_ | refine Below.alloc ?_ (by first | omega | (simp; omega) | simp) _)⟩

set_option maxHeartbeats 1000000 in
theorem rsub_12 (hn m : Int) (hr : (sideB 1 hn && sideB 2 m) = true) (w : World) :
    Calls Try.prog 16 #[Half.val ⟨1, hn, 2, m⟩] w fun e w' => e = .returned (.string ⟨#[102, 114, 111, 109, 44, 97, 115, 107]⟩) ∧ Below w.heap.size w w' := by
  have H := Lib.hid hr
  clear hr
  go_enter Try.func16, Try.ntmps16
  go_wp2_with fail
  refine (rright_any _ _ _ _ _).mono ?_
  rintro e w' ⟨rfl, rfl⟩
  rw [H.out]
  go_wp2_with fail
  go_ret
  exact ⟨rfl, by repeat (first | exact Below.refl _ _ | assumption | refine Below.drew ?_ | refine Below.alloc ?_ (by first | omega | (simp; omega) | simp) _)⟩

set_option maxHeartbeats 1000000 in
theorem rsub_20 (hn m : Int) (hr : (sideB 2 hn && sideB 0 m) = true) (w : World) :
    Calls Try.prog 16 #[Half.val ⟨2, hn, 0, m⟩] w fun e w' => e = .returned (.string ⟨#[116, 111]⟩) ∧ Below w.heap.size w w' := by
  have H := Lib.hid hr
  clear hr
  go_enter Try.func16, Try.ntmps16
  go_wp2_with fail
  refine (rright_any _ _ _ _ _).mono ?_
  rintro e w' ⟨rfl, rfl⟩
  rw [H.out]
  go_wp2_with fail
  go_ret
  exact ⟨rfl, by repeat (first | exact Below.refl _ _ | assumption | refine Below.drew ?_ | refine Below.alloc ?_ (by first | omega | (simp; omega) | simp) _)⟩

set_option maxHeartbeats 1000000 in
theorem rsub_21 (hn m : Int) (hr : (sideB 2 hn && sideB 1 m) = true) (w : World) :
    Calls Try.prog 16 #[Half.val ⟨2, hn, 1, m⟩] w fun e w' => e = .returned (.string ⟨#[116, 111]⟩) ∧ Below w.heap.size w w' := by
  have H := Lib.hid hr
  clear hr
  go_enter Try.func16, Try.ntmps16
  go_wp2_with fail
  refine (rright_any _ _ _ _ _).mono ?_
  rintro e w' ⟨rfl, rfl⟩
  rw [H.out]
  go_wp2_with fail
  go_ret
  exact ⟨rfl, by repeat (first | exact Below.refl _ _ | assumption | refine Below.drew ?_ | refine Below.alloc ?_ (by first | omega | (simp; omega) | simp) _)⟩

set_option maxHeartbeats 1000000 in
theorem rsub_22 (hn m : Int) (hr : (sideB 2 hn && sideB 2 m) = true) (w : World) :
    Calls Try.prog 16 #[Half.val ⟨2, hn, 2, m⟩] w fun e w' => e = .returned (.string ⟨#[98, 111, 116, 104]⟩) ∧ Below w.heap.size w w' := by
  have H := Lib.hid hr
  clear hr
  go_enter Try.func16, Try.ntmps16
  go_wp2_with fail
  refine (rright_any _ _ _ _ _).mono ?_
  rintro e w' ⟨rfl, rfl⟩
  rw [H.out]
  go_wp2_with fail
  go_ret
  exact ⟨rfl, by repeat (first | exact Below.refl _ _ | assumption | refine Below.drew ?_ | refine Below.alloc ?_ (by first | omega | (simp; omega) | simp) _)⟩

theorem rsub_any (h : Half) (w : World) :
    Calls Try.prog 16 #[h.val] w fun e w' => e = .returned (strV (subS h)) ∧ Below w.heap.size w w' := by
  obtain ⟨o, hn, i, m⟩ := h
  unfold subS rightB strV
  by_cases hr : (sideB o hn && sideB i m) = false
  · rw [if_pos hr]; exact rsub_wrong o hn i m hr w
  · rw [if_neg hr]
    replace hr : (sideB o hn && sideB i m) = true := by simpa using hr
    have h2 := hr
    simp only [Bool.and_eq_true] at h2
    rcases side_range h2.1 with rfl | rfl | rfl <;> rcases side_range h2.2 with rfl | rfl | rfl
    · exact rsub_00 hn m hr w
    · exact rsub_01 hn m hr w
    · exact rsub_02 hn m hr w
    · exact rsub_10 hn m hr w
    · exact rsub_11 hn m hr w
    · exact rsub_12 hn m hr w
    · exact rsub_20 hn m hr w
    · exact rsub_21 hn m hr w
    · exact rsub_22 hn m hr w

set_option maxHeartbeats 1000000 in
theorem same_refl (h : Half) (w : World) :
    Calls Try.prog 12 #[h.val, h.val] w fun e w' => e = .returned (.bool true) ∧ Below w.heap.size w w' := by
  obtain ⟨o, hn, i, m⟩ := h
  go_enter Try.func12, Try.ntmps12
  go_wp2_with fail
  go_ret
  exact ⟨rfl, by repeat (first | exact Below.refl _ _ | assumption | refine Below.drew ?_ | refine Below.alloc ?_ (by first | omega | (simp; omega) | simp) _)⟩

end Go.Proofs.Ytgaimcdkbknljaa
