import Derived.Test.YtgaimcdkbknljaaA4
namespace Go.Proofs.Ytgaimcdkbknljaa
open Go.RowKit
set_option linter.unusedSimpArgs false
set_option linter.unusedVariables false

set_option maxHeartbeats 1000000 in
theorem table_0 (w : World) :
    Calls Try.prog 18 #[.string ⟨#[111, 117, 116, 32, 115, 117, 98, 115, 99, 114, 105, 98, 101]⟩] w fun e w' => e = .returned (.agg #[.int .i64 1, .int .i64 (-1), .int .i64 3, .int .i64 (-1), .int .i64 (-1), .int .i64 (-1), .int .i64 7, .int .i64 (-1), .int .i64 (-1)]) ∧ Below w.heap.size w w' := by
  go_enter Try.func18, Try.ntmps18
  go_wp2_with fail
  exact bodyPost_ret (v := .agg #[.int .i64 1, .int .i64 (-1), .int .i64 3, .int .i64 (-1), .int .i64 (-1), .int .i64 (-1), .int .i64 7, .int .i64 (-1), .int .i64 (-1)]) (by simp [results, Try.results18, go_sem]) rfl ⟨rfl, by repeat (first | exact Below.refl _ _ | assumption | refine Below.drew ?_ | refine Below.alloc ?_ (by first | omega | (simp; omega) | simp) _)⟩

set_option maxHeartbeats 1000000 in
theorem table_1 (w : World) :
    Calls Try.prog 18 #[.string ⟨#[111, 117, 116, 32, 117, 110, 115, 117, 98, 115, 99, 114, 105, 98, 101]⟩] w fun e w' => e = .returned (.agg #[.int .i64 (-1), .int .i64 0, .int .i64 (-1), .int .i64 2, .int .i64 0, .int .i64 2, .int .i64 (-1), .int .i64 6, .int .i64 6]) ∧ Below w.heap.size w w' := by
  go_enter Try.func18, Try.ntmps18
  go_wp2_with fail
  exact bodyPost_ret (v := .agg #[.int .i64 (-1), .int .i64 0, .int .i64 (-1), .int .i64 2, .int .i64 0, .int .i64 2, .int .i64 (-1), .int .i64 6, .int .i64 6]) (by simp [results, Try.results18, go_sem]) rfl ⟨rfl, by repeat (first | exact Below.refl _ _ | assumption | refine Below.drew ?_ | refine Below.alloc ?_ (by first | omega | (simp; omega) | simp) _)⟩

set_option maxHeartbeats 1000000 in
theorem table_2 (w : World) :
    Calls Try.prog 18 #[.string ⟨#[111, 117, 116, 32, 115, 117, 98, 115, 99, 114, 105, 98, 101, 100]⟩] w fun e w' => e = .returned (.agg #[.int .i64 (-1), .int .i64 (-1), .int .i64 6, .int .i64 7, .int .i64 (-1), .int .i64 8, .int .i64 (-1), .int .i64 (-1), .int .i64 (-1)]) ∧ Below w.heap.size w w' := by
  go_enter Try.func18, Try.ntmps18
  go_wp2_with fail
  exact bodyPost_ret (v := .agg #[.int .i64 (-1), .int .i64 (-1), .int .i64 6, .int .i64 7, .int .i64 (-1), .int .i64 8, .int .i64 (-1), .int .i64 (-1), .int .i64 (-1)]) (by simp [results, Try.results18, go_sem]) rfl ⟨rfl, by repeat (first | exact Below.refl _ _ | assumption | refine Below.drew ?_ | refine Below.alloc ?_ (by first | omega | (simp; omega) | simp) _)⟩

set_option maxHeartbeats 1000000 in
theorem table_3 (w : World) :
    Calls Try.prog 18 #[.string ⟨#[111, 117, 116, 32, 117, 110, 115, 117, 98, 115, 99, 114, 105, 98, 101, 100]⟩] w fun e w' => e = .returned (.agg #[.int .i64 (-1), .int .i64 (-1), .int .i64 0, .int .i64 1, .int .i64 (-1), .int .i64 4, .int .i64 0, .int .i64 1, .int .i64 4]) ∧ Below w.heap.size w w' := by
  go_enter Try.func18, Try.ntmps18
  go_wp2_with fail
  exact bodyPost_ret (v := .agg #[.int .i64 (-1), .int .i64 (-1), .int .i64 0, .int .i64 1, .int .i64 (-1), .int .i64 4, .int .i64 0, .int .i64 1, .int .i64 4]) (by simp [results, Try.results18, go_sem]) rfl ⟨rfl, by repeat (first | exact Below.refl _ _ | assumption | refine Below.drew ?_ | refine Below.alloc ?_ (by first | omega | (simp; omega) | simp) _)⟩

set_option maxHeartbeats 1000000 in
theorem table_4 (w : World) :
    Calls Try.prog 18 #[.string ⟨#[105, 110, 32, 115, 117, 98, 115, 99, 114, 105, 98, 101]⟩] w fun e w' => e = .returned (.agg #[.int .i64 2, .int .i64 3, .int .i64 (-1), .int .i64 (-1), .int .i64 5, .int .i64 (-1), .int .i64 (-1), .int .i64 (-1), .int .i64 (-1)]) ∧ Below w.heap.size w w' := by
  go_enter Try.func18, Try.ntmps18
  go_wp2_with fail
  exact bodyPost_ret (v := .agg #[.int .i64 2, .int .i64 3, .int .i64 (-1), .int .i64 (-1), .int .i64 5, .int .i64 (-1), .int .i64 (-1), .int .i64 (-1), .int .i64 (-1)]) (by simp [results, Try.results18, go_sem]) rfl ⟨rfl, by repeat (first | exact Below.refl _ _ | assumption | refine Below.drew ?_ | refine Below.alloc ?_ (by first | omega | (simp; omega) | simp) _)⟩

set_option maxHeartbeats 1000000 in
theorem table_5 (w : World) :
    Calls Try.prog 18 #[.string ⟨#[105, 110, 32, 117, 110, 115, 117, 98, 115, 99, 114, 105, 98, 101]⟩] w fun e w' => e = .returned (.agg #[.int .i64 (-1), .int .i64 (-1), .int .i64 0, .int .i64 1, .int .i64 (-1), .int .i64 4, .int .i64 0, .int .i64 1, .int .i64 4]) ∧ Below w.heap.size w w' := by
  go_enter Try.func18, Try.ntmps18
  go_wp2_with fail
  exact bodyPost_ret (v := .agg #[.int .i64 (-1), .int .i64 (-1), .int .i64 0, .int .i64 1, .int .i64 (-1), .int .i64 4, .int .i64 0, .int .i64 1, .int .i64 4]) (by simp [results, Try.results18, go_sem]) rfl ⟨rfl, by repeat (first | exact Below.refl _ _ | assumption | refine Below.drew ?_ | refine Below.alloc ?_ (by first | omega | (simp; omega) | simp) _)⟩

set_option maxHeartbeats 1000000 in
theorem table_6 (w : World) :
    Calls Try.prog 18 #[.string ⟨#[105, 110, 32, 115, 117, 98, 115, 99, 114, 105, 98, 101, 100]⟩] w fun e w' => e = .returned (.agg #[.int .i64 (-1), .int .i64 4, .int .i64 (-1), .int .i64 5, .int .i64 (-1), .int .i64 (-1), .int .i64 (-1), .int .i64 8, .int .i64 (-1)]) ∧ Below w.heap.size w w' := by
  go_enter Try.func18, Try.ntmps18
  go_wp2_with fail
  exact bodyPost_ret (v := .agg #[.int .i64 (-1), .int .i64 4, .int .i64 (-1), .int .i64 5, .int .i64 (-1), .int .i64 (-1), .int .i64 (-1), .int .i64 8, .int .i64 (-1)]) (by simp [results, Try.results18, go_sem]) rfl ⟨rfl, by repeat (first | exact Below.refl _ _ | assumption | refine Below.drew ?_ | refine Below.alloc ?_ (by first | omega | (simp; omega) | simp) _)⟩

set_option maxHeartbeats 1000000 in
theorem table_7 (w : World) :
    Calls Try.prog 18 #[.string ⟨#[105, 110, 32, 117, 110, 115, 117, 98, 115, 99, 114, 105, 98, 101, 100]⟩] w fun e w' => e = .returned (.agg #[.int .i64 (-1), .int .i64 0, .int .i64 (-1), .int .i64 2, .int .i64 0, .int .i64 2, .int .i64 (-1), .int .i64 6, .int .i64 6]) ∧ Below w.heap.size w w' := by
  go_enter Try.func18, Try.ntmps18
  go_wp2_with fail
  exact bodyPost_ret (v := .agg #[.int .i64 (-1), .int .i64 0, .int .i64 (-1), .int .i64 2, .int .i64 0, .int .i64 2, .int .i64 (-1), .int .i64 6, .int .i64 6]) (by simp [results, Try.results18, go_sem]) rfl ⟨rfl, by repeat (first | exact Below.refl _ _ | assumption | refine Below.drew ?_ | refine Below.alloc ?_ (by first | omega | (simp; omega) | simp) _)⟩

set_option maxHeartbeats 1000000 in
theorem half_0 (n m : Int) (w : World) :
    Calls Try.prog 17 #[.int .i64 0, .int .u64 n, .int .u64 m] w fun e w' => e = .returned (Half.val ⟨0, 0, 0, 0⟩) ∧ Below w.heap.size w w' := by
  go_enter Try.func17, Try.ntmps17
  go_wp2_with fail
  go_region
  go_wp2_with fail
  exact bodyPost_ret (v := .agg #[.int .i64 0, .int .u64 0, .int .i64 0, .int .u64 0]) (by simp [results, Try.results17, go_sem]) rfl ⟨rfl, by repeat (first | exact Below.refl _ _ | assumption | refine Below.drew ?_ | refine Below.alloc ?_ (by first | omega | (simp; omega) | simp) _)⟩

set_option maxHeartbeats 1000000 in
theorem half_1 (n m : Int) (w : World) :
    Calls Try.prog 17 #[.int .i64 1, .int .u64 n, .int .u64 m] w fun e w' => e = .returned (Half.val ⟨1, n, 0, 0⟩) ∧ Below w.heap.size w w' := by
  go_enter Try.func17, Try.ntmps17
  go_wp2_with fail
  go_region
  go_wp2_with fail
  exact bodyPost_ret (v := .agg #[.int .i64 1, .int .u64 n, .int .i64 0, .int .u64 0]) (by simp [results, Try.results17, go_sem]) rfl ⟨rfl, by repeat (first | exact Below.refl _ _ | assumption | refine Below.drew ?_ | refine Below.alloc ?_ (by first | omega | (simp; omega) | simp) _)⟩

set_option maxHeartbeats 1000000 in
theorem half_2 (n m : Int) (w : World) :
    Calls Try.prog 17 #[.int .i64 2, .int .u64 n, .int .u64 m] w fun e w' => e = .returned (Half.val ⟨0, 0, 1, m⟩) ∧ Below w.heap.size w w' := by
  go_enter Try.func17, Try.ntmps17
  go_wp2_with fail
  go_region
  go_wp2_with fail
  exact bodyPost_ret (v := .agg #[.int .i64 0, .int .u64 0, .int .i64 1, .int .u64 m]) (by simp [results, Try.results17, go_sem]) rfl ⟨rfl, by repeat (first | exact Below.refl _ _ | assumption | refine Below.drew ?_ | refine Below.alloc ?_ (by first | omega | (simp; omega) | simp) _)⟩

set_option maxHeartbeats 1000000 in
theorem half_3 (n m : Int) (w : World) :
    Calls Try.prog 17 #[.int .i64 3, .int .u64 n, .int .u64 m] w fun e w' => e = .returned (Half.val ⟨1, n, 1, m⟩) ∧ Below w.heap.size w w' := by
  go_enter Try.func17, Try.ntmps17
  go_wp2_with fail
  go_region
  go_wp2_with fail
  exact bodyPost_ret (v := .agg #[.int .i64 1, .int .u64 n, .int .i64 1, .int .u64 m]) (by simp [results, Try.results17, go_sem]) rfl ⟨rfl, by repeat (first | exact Below.refl _ _ | assumption | refine Below.drew ?_ | refine Below.alloc ?_ (by first | omega | (simp; omega) | simp) _)⟩

set_option maxHeartbeats 1000000 in
theorem half_4 (n m : Int) (w : World) :
    Calls Try.prog 17 #[.int .i64 4, .int .u64 n, .int .u64 m] w fun e w' => e = .returned (Half.val ⟨2, n, 0, 0⟩) ∧ Below w.heap.size w w' := by
  go_enter Try.func17, Try.ntmps17
  go_wp2_with fail
  go_region
  go_wp2_with fail
  exact bodyPost_ret (v := .agg #[.int .i64 2, .int .u64 n, .int .i64 0, .int .u64 0]) (by simp [results, Try.results17, go_sem]) rfl ⟨rfl, by repeat (first | exact Below.refl _ _ | assumption | refine Below.drew ?_ | refine Below.alloc ?_ (by first | omega | (simp; omega) | simp) _)⟩

set_option maxHeartbeats 1000000 in
theorem half_5 (n m : Int) (w : World) :
    Calls Try.prog 17 #[.int .i64 5, .int .u64 n, .int .u64 m] w fun e w' => e = .returned (Half.val ⟨2, n, 1, m⟩) ∧ Below w.heap.size w w' := by
  go_enter Try.func17, Try.ntmps17
  go_wp2_with fail
  go_region
  go_wp2_with fail
  exact bodyPost_ret (v := .agg #[.int .i64 2, .int .u64 n, .int .i64 1, .int .u64 m]) (by simp [results, Try.results17, go_sem]) rfl ⟨rfl, by repeat (first | exact Below.refl _ _ | assumption | refine Below.drew ?_ | refine Below.alloc ?_ (by first | omega | (simp; omega) | simp) _)⟩

set_option maxHeartbeats 1000000 in
theorem half_6 (n m : Int) (w : World) :
    Calls Try.prog 17 #[.int .i64 6, .int .u64 n, .int .u64 m] w fun e w' => e = .returned (Half.val ⟨0, 0, 2, m⟩) ∧ Below w.heap.size w w' := by
  go_enter Try.func17, Try.ntmps17
  go_wp2_with fail
  go_region
  go_wp2_with fail
  exact bodyPost_ret (v := .agg #[.int .i64 0, .int .u64 0, .int .i64 2, .int .u64 m]) (by simp [results, Try.results17, go_sem]) rfl ⟨rfl, by repeat (first | exact Below.refl _ _ | assumption | refine Below.drew ?_ | refine Below.alloc ?_ (by first | omega | (simp; omega) | simp) _)⟩

set_option maxHeartbeats 1000000 in
theorem half_7 (n m : Int) (w : World) :
    Calls Try.prog 17 #[.int .i64 7, .int .u64 n, .int .u64 m] w fun e w' => e = .returned (Half.val ⟨1, n, 2, m⟩) ∧ Below w.heap.size w w' := by
  go_enter Try.func17, Try.ntmps17
  go_wp2_with fail
  go_region
  go_wp2_with fail
  exact bodyPost_ret (v := .agg #[.int .i64 1, .int .u64 n, .int .i64 2, .int .u64 m]) (by simp [results, Try.results17, go_sem]) rfl ⟨rfl, by repeat (first | exact Below.refl _ _ | assumption | refine Below.drew ?_ | refine Below.alloc ?_ (by first | omega | (simp; omega) | simp) _)⟩

set_option maxHeartbeats 1000000 in
theorem half_8 (n m : Int) (w : World) :
    Calls Try.prog 17 #[.int .i64 8, .int .u64 n, .int .u64 m] w fun e w' => e = .returned (Half.val ⟨2, n, 2, m⟩) ∧ Below w.heap.size w w' := by
  go_enter Try.func17, Try.ntmps17
  go_wp2_with fail
  go_region
  go_wp2_with fail
  exact bodyPost_ret (v := .agg #[.int .i64 2, .int .u64 n, .int .i64 2, .int .u64 m]) (by simp [results, Try.results17, go_sem]) rfl ⟨rfl, by repeat (first | exact Below.refl _ _ | assumption | refine Below.drew ?_ | refine Below.alloc ?_ (by first | omega | (simp; omega) | simp) _)⟩

end Go.Proofs.Ytgaimcdkbknljaa
