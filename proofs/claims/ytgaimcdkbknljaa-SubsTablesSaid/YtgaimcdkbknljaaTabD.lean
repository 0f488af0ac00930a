/- The tables, round by round, and SubsTables' walk for every argument. -/
import Derived.Test.YtgaimcdkbknljaaTabG
import Derived.IntWalk
namespace Go.Proofs.Ytgaimcdkbknljaa
open Go.RowKit
set_option linter.unusedSimpArgs false
set_option linter.unusedVariables false

theorem rnd_0_0 (n m : Int) (q0 : ¬ n = 0) (q1 : ¬ m = 0) (q2 : ¬ n + 1 = 0) (q3 : ¬ m + 1 = 0) :
    Rnd ⟨0, 0, 0, 0⟩ n m 0 0 1 11 ⟨#[111, 117, 116, 32, 115, 117, 98, 115, 99, 114, 105, 98, 101]⟩ ⟨#[105, 110, 32, 115, 117, 98, 115, 99, 114, 105, 98, 101]⟩ ⟨1, (n + 1), 0, 0⟩ 1 (n + 1) (.agg #[.int .i64 1, .int .i64 (-1), .int .i64 3, .int .i64 (-1), .int .i64 (-1), .int .i64 (-1), .int .i64 7, .int .i64 (-1), .int .i64 (-1)]) 1 ⟨0, 0, 1, (m + 1)⟩ (m + 1) 42 (.agg #[.int .i64 2, .int .i64 3, .int .i64 (-1), .int .i64 (-1), .int .i64 5, .int .i64 (-1), .int .i64 (-1), .int .i64 (-1), .int .i64 (-1)]) 2 where
  fK := rfl
  fev := rfl
  mkv := rfl
  fmk := rfl
  fev2 := rfl
  act := fun w => by
    have q4 : ¬ 0 = n := fun e => q0 e.symm
    have q5 : ¬ 0 = m := fun e => q1 e.symm
    have := act_any ⟨0, 0, 0, 0⟩ 11 (n + 1) w
    rw [show actS ⟨0, 0, 0, 0⟩ 11 (n + 1) = some (⟨1, (n + 1), 0, 0⟩, 1, (n + 1)) from by unfold actS rightB; simp [sideB, q0, q1, q2, q3, q4, q5]] at this
    exact this
  tab := fun w => table_0 w
  idx := fun _ => by kernel_rfl
  one := .inr ⟨by decide, by decide, by decide, ⟨#[78, 111, 110, 101, 32, 43, 32, 80, 101, 110, 100, 105, 110, 103, 32, 79, 117, 116]⟩, rfl, fun w => state_10 (n + 1) 0 (by simp [sideB, q0, q1, q2, q3]) w⟩
  fnum := rfl
  hear := fun w => by
    have q4 : ¬ 0 = n := fun e => q0 e.symm
    have q5 : ¬ 0 = m := fun e => q1 e.symm
    have := hear_any ⟨0, 0, 0, 0⟩ 1 (m + 1) w
    rw [show hearS ⟨0, 0, 0, 0⟩ 1 (m + 1) = some (⟨0, 0, 1, (m + 1)⟩, 42) from by unfold hearS rightB; simp [sideB, q0, q1, q2, q3, q4, q5]] at this
    exact this
  tab2 := fun w => table_4 w
  idx2 := fun _ => by kernel_rfl
  two := .inr ⟨by decide, by decide, by decide, ⟨#[78, 111, 110, 101, 32, 43, 32, 80, 101, 110, 100, 105, 110, 103, 32, 73, 110]⟩, rfl, fun w => state_01 0 (m + 1) (by simp [sideB, q0, q1, q2, q3]) w⟩

theorem rnd_0_1 (n m : Int) (q0 : ¬ n = 0) (q1 : ¬ m = 0) (q2 : ¬ n + 1 = 0) (q3 : ¬ m + 1 = 0) :
    Rnd ⟨0, 0, 0, 0⟩ n m 0 1 2 13 ⟨#[111, 117, 116, 32, 117, 110, 115, 117, 98, 115, 99, 114, 105, 98, 101]⟩ ⟨#[105, 110, 32, 117, 110, 115, 117, 98, 115, 99, 114, 105, 98, 101]⟩ ⟨0, 0, 0, 0⟩ 0 0 (.agg #[.int .i64 (-1), .int .i64 0, .int .i64 (-1), .int .i64 2, .int .i64 0, .int .i64 2, .int .i64 (-1), .int .i64 6, .int .i64 6]) (-1) ⟨0, 0, 0, 0⟩ m 0 (.agg #[.int .i64 (-1), .int .i64 (-1), .int .i64 0, .int .i64 1, .int .i64 (-1), .int .i64 4, .int .i64 0, .int .i64 1, .int .i64 4]) (-1) where
  fK := rfl
  fev := rfl
  mkv := rfl
  fmk := rfl
  fev2 := rfl
  act := fun w => by
    have q4 : ¬ 0 = n := fun e => q0 e.symm
    have q5 : ¬ 0 = m := fun e => q1 e.symm
    have := act_any ⟨0, 0, 0, 0⟩ 13 (n + 1) w
    rw [show actS ⟨0, 0, 0, 0⟩ 13 (n + 1) = some (⟨0, 0, 0, 0⟩, 0, 0) from by unfold actS rightB; simp [sideB, q0, q1, q2, q3, q4, q5]] at this
    exact this
  tab := fun w => table_1 w
  idx := fun _ => by kernel_rfl
  one := .inl ⟨by decide, rfl, rfl⟩
  fnum := rfl
  hear := fun w => by
    have q4 : ¬ 0 = n := fun e => q0 e.symm
    have q5 : ¬ 0 = m := fun e => q1 e.symm
    have := hear_any ⟨0, 0, 0, 0⟩ 2 m w
    rw [show hearS ⟨0, 0, 0, 0⟩ 2 m = some (⟨0, 0, 0, 0⟩, 0) from by unfold hearS rightB; simp [sideB, q0, q1, q2, q3, q4, q5]] at this
    exact this
  tab2 := fun w => table_5 w
  idx2 := fun _ => by kernel_rfl
  two := .inl ⟨by decide, .inr ⟨rfl, rfl⟩⟩

theorem rnd_0_2 (n m : Int) (q0 : ¬ n = 0) (q1 : ¬ m = 0) (q2 : ¬ n + 1 = 0) (q3 : ¬ m + 1 = 0) :
    Rnd ⟨0, 0, 0, 0⟩ n m 0 2 3 12 ⟨#[111, 117, 116, 32, 115, 117, 98, 115, 99, 114, 105, 98, 101, 100]⟩ ⟨#[105, 110, 32, 115, 117, 98, 115, 99, 114, 105, 98, 101, 100]⟩ ⟨0, 0, 0, 0⟩ 0 0 (.agg #[.int .i64 (-1), .int .i64 (-1), .int .i64 6, .int .i64 7, .int .i64 (-1), .int .i64 8, .int .i64 (-1), .int .i64 (-1), .int .i64 (-1)]) (-1) ⟨0, 0, 0, 0⟩ n 0 (.agg #[.int .i64 (-1), .int .i64 4, .int .i64 (-1), .int .i64 5, .int .i64 (-1), .int .i64 (-1), .int .i64 (-1), .int .i64 8, .int .i64 (-1)]) (-1) where
  fK := rfl
  fev := rfl
  mkv := rfl
  fmk := rfl
  fev2 := rfl
  act := fun w => by
    have q4 : ¬ 0 = n := fun e => q0 e.symm
    have q5 : ¬ 0 = m := fun e => q1 e.symm
    have := act_any ⟨0, 0, 0, 0⟩ 12 (n + 1) w
    rw [show actS ⟨0, 0, 0, 0⟩ 12 (n + 1) = some (⟨0, 0, 0, 0⟩, 0, 0) from by unfold actS rightB; simp [sideB, q0, q1, q2, q3, q4, q5]] at this
    exact this
  tab := fun w => table_2 w
  idx := fun _ => by kernel_rfl
  one := .inl ⟨by decide, rfl, rfl⟩
  fnum := rfl
  hear := fun w => by
    have q4 : ¬ 0 = n := fun e => q0 e.symm
    have q5 : ¬ 0 = m := fun e => q1 e.symm
    have := hear_any ⟨0, 0, 0, 0⟩ 3 n w
    rw [show hearS ⟨0, 0, 0, 0⟩ 3 n = some (⟨0, 0, 0, 0⟩, 0) from by unfold hearS rightB; simp [sideB, q0, q1, q2, q3, q4, q5]] at this
    exact this
  tab2 := fun w => table_6 w
  idx2 := fun _ => by kernel_rfl
  two := .inl ⟨by decide, .inr ⟨rfl, rfl⟩⟩

theorem rnd_0_3 (n m : Int) (q0 : ¬ n = 0) (q1 : ¬ m = 0) (q2 : ¬ n + 1 = 0) (q3 : ¬ m + 1 = 0) :
    Rnd ⟨0, 0, 0, 0⟩ n m 0 3 4 14 ⟨#[111, 117, 116, 32, 117, 110, 115, 117, 98, 115, 99, 114, 105, 98, 101, 100]⟩ ⟨#[105, 110, 32, 117, 110, 115, 117, 98, 115, 99, 114, 105, 98, 101, 100]⟩ ⟨0, 0, 0, 0⟩ 0 0 (.agg #[.int .i64 (-1), .int .i64 (-1), .int .i64 0, .int .i64 1, .int .i64 (-1), .int .i64 4, .int .i64 0, .int .i64 1, .int .i64 4]) (-1) ⟨0, 0, 0, 0⟩ n 0 (.agg #[.int .i64 (-1), .int .i64 0, .int .i64 (-1), .int .i64 2, .int .i64 0, .int .i64 2, .int .i64 (-1), .int .i64 6, .int .i64 6]) (-1) where
  fK := rfl
  fev := rfl
  mkv := rfl
  fmk := rfl
  fev2 := rfl
  act := fun w => by
    have q4 : ¬ 0 = n := fun e => q0 e.symm
    have q5 : ¬ 0 = m := fun e => q1 e.symm
    have := act_any ⟨0, 0, 0, 0⟩ 14 (n + 1) w
    rw [show actS ⟨0, 0, 0, 0⟩ 14 (n + 1) = some (⟨0, 0, 0, 0⟩, 0, 0) from by unfold actS rightB; simp [sideB, q0, q1, q2, q3, q4, q5]] at this
    exact this
  tab := fun w => table_3 w
  idx := fun _ => by kernel_rfl
  one := .inl ⟨by decide, rfl, rfl⟩
  fnum := rfl
  hear := fun w => by
    have q4 : ¬ 0 = n := fun e => q0 e.symm
    have q5 : ¬ 0 = m := fun e => q1 e.symm
    have := hear_any ⟨0, 0, 0, 0⟩ 4 n w
    rw [show hearS ⟨0, 0, 0, 0⟩ 4 n = some (⟨0, 0, 0, 0⟩, 0) from by unfold hearS rightB; simp [sideB, q0, q1, q2, q3, q4, q5]] at this
    exact this
  tab2 := fun w => table_7 w
  idx2 := fun _ => by kernel_rfl
  two := .inl ⟨by decide, .inr ⟨rfl, rfl⟩⟩

theorem rnd_1_0 (n m : Int) (q0 : ¬ n = 0) (q1 : ¬ m = 0) (q2 : ¬ n + 1 = 0) (q3 : ¬ m + 1 = 0) :
    Rnd ⟨1, n, 0, 0⟩ n m 1 0 1 11 ⟨#[111, 117, 116, 32, 115, 117, 98, 115, 99, 114, 105, 98, 101]⟩ ⟨#[105, 110, 32, 115, 117, 98, 115, 99, 114, 105, 98, 101]⟩ ⟨1, n, 0, 0⟩ 0 0 (.agg #[.int .i64 1, .int .i64 (-1), .int .i64 3, .int .i64 (-1), .int .i64 (-1), .int .i64 (-1), .int .i64 7, .int .i64 (-1), .int .i64 (-1)]) (-1) ⟨1, n, 1, (m + 1)⟩ (m + 1) 42 (.agg #[.int .i64 2, .int .i64 3, .int .i64 (-1), .int .i64 (-1), .int .i64 5, .int .i64 (-1), .int .i64 (-1), .int .i64 (-1), .int .i64 (-1)]) 3 where
  fK := rfl
  fev := rfl
  mkv := rfl
  fmk := rfl
  fev2 := rfl
  act := fun w => by
    have q4 : ¬ 0 = n := fun e => q0 e.symm
    have q5 : ¬ 0 = m := fun e => q1 e.symm
    have := act_any ⟨1, n, 0, 0⟩ 11 (n + 1) w
    rw [show actS ⟨1, n, 0, 0⟩ 11 (n + 1) = some (⟨1, n, 0, 0⟩, 0, 0) from by unfold actS rightB; simp [sideB, q0, q1, q2, q3, q4, q5]] at this
    exact this
  tab := fun w => table_0 w
  idx := fun _ => by kernel_rfl
  one := .inl ⟨by decide, rfl, rfl⟩
  fnum := rfl
  hear := fun w => by
    have q4 : ¬ 0 = n := fun e => q0 e.symm
    have q5 : ¬ 0 = m := fun e => q1 e.symm
    have := hear_any ⟨1, n, 0, 0⟩ 1 (m + 1) w
    rw [show hearS ⟨1, n, 0, 0⟩ 1 (m + 1) = some (⟨1, n, 1, (m + 1)⟩, 42) from by unfold hearS rightB; simp [sideB, q0, q1, q2, q3, q4, q5]] at this
    exact this
  tab2 := fun w => table_4 w
  idx2 := fun _ => by kernel_rfl
  two := .inr ⟨by decide, by decide, by decide, ⟨#[78, 111, 110, 101, 32, 43, 32, 80, 101, 110, 100, 105, 110, 103, 32, 79, 117, 116, 43, 73, 110]⟩, rfl, fun w => state_11 n (m + 1) (by simp [sideB, q0, q1, q2, q3]) w⟩

theorem rnd_1_1 (n m : Int) (q0 : ¬ n = 0) (q1 : ¬ m = 0) (q2 : ¬ n + 1 = 0) (q3 : ¬ m + 1 = 0) :
    Rnd ⟨1, n, 0, 0⟩ n m 1 1 2 13 ⟨#[111, 117, 116, 32, 117, 110, 115, 117, 98, 115, 99, 114, 105, 98, 101]⟩ ⟨#[105, 110, 32, 117, 110, 115, 117, 98, 115, 99, 114, 105, 98, 101]⟩ ⟨0, 0, 0, 0⟩ 2 n (.agg #[.int .i64 (-1), .int .i64 0, .int .i64 (-1), .int .i64 2, .int .i64 0, .int .i64 2, .int .i64 (-1), .int .i64 6, .int .i64 6]) 0 ⟨1, n, 0, 0⟩ m 0 (.agg #[.int .i64 (-1), .int .i64 (-1), .int .i64 0, .int .i64 1, .int .i64 (-1), .int .i64 4, .int .i64 0, .int .i64 1, .int .i64 4]) (-1) where
  fK := rfl
  fev := rfl
  mkv := rfl
  fmk := rfl
  fev2 := rfl
  act := fun w => by
    have q4 : ¬ 0 = n := fun e => q0 e.symm
    have q5 : ¬ 0 = m := fun e => q1 e.symm
    have := act_any ⟨1, n, 0, 0⟩ 13 (n + 1) w
    rw [show actS ⟨1, n, 0, 0⟩ 13 (n + 1) = some (⟨0, 0, 0, 0⟩, 2, n) from by unfold actS rightB; simp [sideB, q0, q1, q2, q3, q4, q5]] at this
    exact this
  tab := fun w => table_1 w
  idx := fun _ => by kernel_rfl
  one := .inr ⟨by decide, by decide, by decide, ⟨#[78, 111, 110, 101]⟩, rfl, fun w => state_00 0 0 (by simp [sideB, q0, q1, q2, q3]) w⟩
  fnum := rfl
  hear := fun w => by
    have q4 : ¬ 0 = n := fun e => q0 e.symm
    have q5 : ¬ 0 = m := fun e => q1 e.symm
    have := hear_any ⟨1, n, 0, 0⟩ 2 m w
    rw [show hearS ⟨1, n, 0, 0⟩ 2 m = some (⟨1, n, 0, 0⟩, 0) from by unfold hearS rightB; simp [sideB, q0, q1, q2, q3, q4, q5]] at this
    exact this
  tab2 := fun w => table_5 w
  idx2 := fun _ => by kernel_rfl
  two := .inl ⟨by decide, .inr ⟨rfl, rfl⟩⟩

theorem rnd_1_2 (n m : Int) (q0 : ¬ n = 0) (q1 : ¬ m = 0) (q2 : ¬ n + 1 = 0) (q3 : ¬ m + 1 = 0) :
    Rnd ⟨1, n, 0, 0⟩ n m 1 2 3 12 ⟨#[111, 117, 116, 32, 115, 117, 98, 115, 99, 114, 105, 98, 101, 100]⟩ ⟨#[105, 110, 32, 115, 117, 98, 115, 99, 114, 105, 98, 101, 100]⟩ ⟨1, n, 0, 0⟩ 0 0 (.agg #[.int .i64 (-1), .int .i64 (-1), .int .i64 6, .int .i64 7, .int .i64 (-1), .int .i64 8, .int .i64 (-1), .int .i64 (-1), .int .i64 (-1)]) (-1) ⟨2, n, 0, 0⟩ n 43 (.agg #[.int .i64 (-1), .int .i64 4, .int .i64 (-1), .int .i64 5, .int .i64 (-1), .int .i64 (-1), .int .i64 (-1), .int .i64 8, .int .i64 (-1)]) 4 where
  fK := rfl
  fev := rfl
  mkv := rfl
  fmk := rfl
  fev2 := rfl
  act := fun w => by
    have q4 : ¬ 0 = n := fun e => q0 e.symm
    have q5 : ¬ 0 = m := fun e => q1 e.symm
    have := act_any ⟨1, n, 0, 0⟩ 12 (n + 1) w
    rw [show actS ⟨1, n, 0, 0⟩ 12 (n + 1) = some (⟨1, n, 0, 0⟩, 0, 0) from by unfold actS rightB; simp [sideB, q0, q1, q2, q3, q4, q5]] at this
    exact this
  tab := fun w => table_2 w
  idx := fun _ => by kernel_rfl
  one := .inl ⟨by decide, rfl, rfl⟩
  fnum := rfl
  hear := fun w => by
    have q4 : ¬ 0 = n := fun e => q0 e.symm
    have q5 : ¬ 0 = m := fun e => q1 e.symm
    have := hear_any ⟨1, n, 0, 0⟩ 3 n w
    rw [show hearS ⟨1, n, 0, 0⟩ 3 n = some (⟨2, n, 0, 0⟩, 43) from by unfold hearS rightB; simp [sideB, q0, q1, q2, q3, q4, q5]] at this
    exact this
  tab2 := fun w => table_6 w
  idx2 := fun _ => by kernel_rfl
  two := .inr ⟨by decide, by decide, by decide, ⟨#[84, 111]⟩, rfl, fun w => state_20 n 0 (by simp [sideB, q0, q1, q2, q3]) w⟩

theorem rnd_1_3 (n m : Int) (q0 : ¬ n = 0) (q1 : ¬ m = 0) (q2 : ¬ n + 1 = 0) (q3 : ¬ m + 1 = 0) :
    Rnd ⟨1, n, 0, 0⟩ n m 1 3 4 14 ⟨#[111, 117, 116, 32, 117, 110, 115, 117, 98, 115, 99, 114, 105, 98, 101, 100]⟩ ⟨#[105, 110, 32, 117, 110, 115, 117, 98, 115, 99, 114, 105, 98, 101, 100]⟩ ⟨1, n, 0, 0⟩ 0 0 (.agg #[.int .i64 (-1), .int .i64 (-1), .int .i64 0, .int .i64 1, .int .i64 (-1), .int .i64 4, .int .i64 0, .int .i64 1, .int .i64 4]) (-1) ⟨0, 0, 0, 0⟩ n 45 (.agg #[.int .i64 (-1), .int .i64 0, .int .i64 (-1), .int .i64 2, .int .i64 0, .int .i64 2, .int .i64 (-1), .int .i64 6, .int .i64 6]) 0 where
  fK := rfl
  fev := rfl
  mkv := rfl
  fmk := rfl
  fev2 := rfl
  act := fun w => by
    have q4 : ¬ 0 = n := fun e => q0 e.symm
    have q5 : ¬ 0 = m := fun e => q1 e.symm
    have := act_any ⟨1, n, 0, 0⟩ 14 (n + 1) w
    rw [show actS ⟨1, n, 0, 0⟩ 14 (n + 1) = some (⟨1, n, 0, 0⟩, 0, 0) from by unfold actS rightB; simp [sideB, q0, q1, q2, q3, q4, q5]] at this
    exact this
  tab := fun w => table_3 w
  idx := fun _ => by kernel_rfl
  one := .inl ⟨by decide, rfl, rfl⟩
  fnum := rfl
  hear := fun w => by
    have q4 : ¬ 0 = n := fun e => q0 e.symm
    have q5 : ¬ 0 = m := fun e => q1 e.symm
    have := hear_any ⟨1, n, 0, 0⟩ 4 n w
    rw [show hearS ⟨1, n, 0, 0⟩ 4 n = some (⟨0, 0, 0, 0⟩, 45) from by unfold hearS rightB; simp [sideB, q0, q1, q2, q3, q4, q5]] at this
    exact this
  tab2 := fun w => table_7 w
  idx2 := fun _ => by kernel_rfl
  two := .inr ⟨by decide, by decide, by decide, ⟨#[78, 111, 110, 101]⟩, rfl, fun w => state_00 0 0 (by simp [sideB, q0, q1, q2, q3]) w⟩

theorem rnd_2_0 (n m : Int) (q0 : ¬ n = 0) (q1 : ¬ m = 0) (q2 : ¬ n + 1 = 0) (q3 : ¬ m + 1 = 0) :
    Rnd ⟨0, 0, 1, m⟩ n m 2 0 1 11 ⟨#[111, 117, 116, 32, 115, 117, 98, 115, 99, 114, 105, 98, 101]⟩ ⟨#[105, 110, 32, 115, 117, 98, 115, 99, 114, 105, 98, 101]⟩ ⟨1, (n + 1), 1, m⟩ 1 (n + 1) (.agg #[.int .i64 1, .int .i64 (-1), .int .i64 3, .int .i64 (-1), .int .i64 (-1), .int .i64 (-1), .int .i64 7, .int .i64 (-1), .int .i64 (-1)]) 3 ⟨0, 0, 1, (m + 1)⟩ (m + 1) 42 (.agg #[.int .i64 2, .int .i64 3, .int .i64 (-1), .int .i64 (-1), .int .i64 5, .int .i64 (-1), .int .i64 (-1), .int .i64 (-1), .int .i64 (-1)]) (-1) where
  fK := rfl
  fev := rfl
  mkv := rfl
  fmk := rfl
  fev2 := rfl
  act := fun w => by
    have q4 : ¬ 0 = n := fun e => q0 e.symm
    have q5 : ¬ 0 = m := fun e => q1 e.symm
    have := act_any ⟨0, 0, 1, m⟩ 11 (n + 1) w
    rw [show actS ⟨0, 0, 1, m⟩ 11 (n + 1) = some (⟨1, (n + 1), 1, m⟩, 1, (n + 1)) from by unfold actS rightB; simp [sideB, q0, q1, q2, q3, q4, q5]] at this
    exact this
  tab := fun w => table_0 w
  idx := fun _ => by kernel_rfl
  one := .inr ⟨by decide, by decide, by decide, ⟨#[78, 111, 110, 101, 32, 43, 32, 80, 101, 110, 100, 105, 110, 103, 32, 79, 117, 116, 43, 73, 110]⟩, rfl, fun w => state_11 (n + 1) m (by simp [sideB, q0, q1, q2, q3]) w⟩
  fnum := rfl
  hear := fun w => by
    have q4 : ¬ 0 = n := fun e => q0 e.symm
    have q5 : ¬ 0 = m := fun e => q1 e.symm
    have := hear_any ⟨0, 0, 1, m⟩ 1 (m + 1) w
    rw [show hearS ⟨0, 0, 1, m⟩ 1 (m + 1) = some (⟨0, 0, 1, (m + 1)⟩, 42) from by unfold hearS rightB; simp [sideB, q0, q1, q2, q3, q4, q5]] at this
    exact this
  tab2 := fun w => table_4 w
  idx2 := fun _ => by kernel_rfl
  two := .inl ⟨by decide, .inl rfl⟩

theorem rnd_2_1 (n m : Int) (q0 : ¬ n = 0) (q1 : ¬ m = 0) (q2 : ¬ n + 1 = 0) (q3 : ¬ m + 1 = 0) :
    Rnd ⟨0, 0, 1, m⟩ n m 2 1 2 13 ⟨#[111, 117, 116, 32, 117, 110, 115, 117, 98, 115, 99, 114, 105, 98, 101]⟩ ⟨#[105, 110, 32, 117, 110, 115, 117, 98, 115, 99, 114, 105, 98, 101]⟩ ⟨0, 0, 1, m⟩ 0 0 (.agg #[.int .i64 (-1), .int .i64 0, .int .i64 (-1), .int .i64 2, .int .i64 0, .int .i64 2, .int .i64 (-1), .int .i64 6, .int .i64 6]) (-1) ⟨0, 0, 0, 0⟩ m 44 (.agg #[.int .i64 (-1), .int .i64 (-1), .int .i64 0, .int .i64 1, .int .i64 (-1), .int .i64 4, .int .i64 0, .int .i64 1, .int .i64 4]) 0 where
  fK := rfl
  fev := rfl
  mkv := rfl
  fmk := rfl
  fev2 := rfl
  act := fun w => by
    have q4 : ¬ 0 = n := fun e => q0 e.symm
    have q5 : ¬ 0 = m := fun e => q1 e.symm
    have := act_any ⟨0, 0, 1, m⟩ 13 (n + 1) w
    rw [show actS ⟨0, 0, 1, m⟩ 13 (n + 1) = some (⟨0, 0, 1, m⟩, 0, 0) from by unfold actS rightB; simp [sideB, q0, q1, q2, q3, q4, q5]] at this
    exact this
  tab := fun w => table_1 w
  idx := fun _ => by kernel_rfl
  one := .inl ⟨by decide, rfl, rfl⟩
  fnum := rfl
  hear := fun w => by
    have q4 : ¬ 0 = n := fun e => q0 e.symm
    have q5 : ¬ 0 = m := fun e => q1 e.symm
    have := hear_any ⟨0, 0, 1, m⟩ 2 m w
    rw [show hearS ⟨0, 0, 1, m⟩ 2 m = some (⟨0, 0, 0, 0⟩, 44) from by unfold hearS rightB; simp [sideB, q0, q1, q2, q3, q4, q5]] at this
    exact this
  tab2 := fun w => table_5 w
  idx2 := fun _ => by kernel_rfl
  two := .inr ⟨by decide, by decide, by decide, ⟨#[78, 111, 110, 101]⟩, rfl, fun w => state_00 0 0 (by simp [sideB, q0, q1, q2, q3]) w⟩

theorem rnd_2_2 (n m : Int) (q0 : ¬ n = 0) (q1 : ¬ m = 0) (q2 : ¬ n + 1 = 0) (q3 : ¬ m + 1 = 0) :
    Rnd ⟨0, 0, 1, m⟩ n m 2 2 3 12 ⟨#[111, 117, 116, 32, 115, 117, 98, 115, 99, 114, 105, 98, 101, 100]⟩ ⟨#[105, 110, 32, 115, 117, 98, 115, 99, 114, 105, 98, 101, 100]⟩ ⟨0, 0, 2, m⟩ 3 m (.agg #[.int .i64 (-1), .int .i64 (-1), .int .i64 6, .int .i64 7, .int .i64 (-1), .int .i64 8, .int .i64 (-1), .int .i64 (-1), .int .i64 (-1)]) 6 ⟨0, 0, 1, m⟩ n 0 (.agg #[.int .i64 (-1), .int .i64 4, .int .i64 (-1), .int .i64 5, .int .i64 (-1), .int .i64 (-1), .int .i64 (-1), .int .i64 8, .int .i64 (-1)]) (-1) where
  fK := rfl
  fev := rfl
  mkv := rfl
  fmk := rfl
  fev2 := rfl
  act := fun w => by
    have q4 : ¬ 0 = n := fun e => q0 e.symm
    have q5 : ¬ 0 = m := fun e => q1 e.symm
    have := act_any ⟨0, 0, 1, m⟩ 12 (n + 1) w
    rw [show actS ⟨0, 0, 1, m⟩ 12 (n + 1) = some (⟨0, 0, 2, m⟩, 3, m) from by unfold actS rightB; simp [sideB, q0, q1, q2, q3, q4, q5]] at this
    exact this
  tab := fun w => table_2 w
  idx := fun _ => by kernel_rfl
  one := .inr ⟨by decide, by decide, by decide, ⟨#[70, 114, 111, 109]⟩, rfl, fun w => state_02 0 m (by simp [sideB, q0, q1, q2, q3]) w⟩
  fnum := rfl
  hear := fun w => by
    have q4 : ¬ 0 = n := fun e => q0 e.symm
    have q5 : ¬ 0 = m := fun e => q1 e.symm
    have := hear_any ⟨0, 0, 1, m⟩ 3 n w
    rw [show hearS ⟨0, 0, 1, m⟩ 3 n = some (⟨0, 0, 1, m⟩, 0) from by unfold hearS rightB; simp [sideB, q0, q1, q2, q3, q4, q5]] at this
    exact this
  tab2 := fun w => table_6 w
  idx2 := fun _ => by kernel_rfl
  two := .inl ⟨by decide, .inr ⟨rfl, rfl⟩⟩

theorem rnd_2_3 (n m : Int) (q0 : ¬ n = 0) (q1 : ¬ m = 0) (q2 : ¬ n + 1 = 0) (q3 : ¬ m + 1 = 0) :
    Rnd ⟨0, 0, 1, m⟩ n m 2 3 4 14 ⟨#[111, 117, 116, 32, 117, 110, 115, 117, 98, 115, 99, 114, 105, 98, 101, 100]⟩ ⟨#[105, 110, 32, 117, 110, 115, 117, 98, 115, 99, 114, 105, 98, 101, 100]⟩ ⟨0, 0, 0, 0⟩ 4 m (.agg #[.int .i64 (-1), .int .i64 (-1), .int .i64 0, .int .i64 1, .int .i64 (-1), .int .i64 4, .int .i64 0, .int .i64 1, .int .i64 4]) 0 ⟨0, 0, 1, m⟩ n 0 (.agg #[.int .i64 (-1), .int .i64 0, .int .i64 (-1), .int .i64 2, .int .i64 0, .int .i64 2, .int .i64 (-1), .int .i64 6, .int .i64 6]) (-1) where
  fK := rfl
  fev := rfl
  mkv := rfl
  fmk := rfl
  fev2 := rfl
  act := fun w => by
    have q4 : ¬ 0 = n := fun e => q0 e.symm
    have q5 : ¬ 0 = m := fun e => q1 e.symm
    have := act_any ⟨0, 0, 1, m⟩ 14 (n + 1) w
    rw [show actS ⟨0, 0, 1, m⟩ 14 (n + 1) = some (⟨0, 0, 0, 0⟩, 4, m) from by unfold actS rightB; simp [sideB, q0, q1, q2, q3, q4, q5]] at this
    exact this
  tab := fun w => table_3 w
  idx := fun _ => by kernel_rfl
  one := .inr ⟨by decide, by decide, by decide, ⟨#[78, 111, 110, 101]⟩, rfl, fun w => state_00 0 0 (by simp [sideB, q0, q1, q2, q3]) w⟩
  fnum := rfl
  hear := fun w => by
    have q4 : ¬ 0 = n := fun e => q0 e.symm
    have q5 : ¬ 0 = m := fun e => q1 e.symm
    have := hear_any ⟨0, 0, 1, m⟩ 4 n w
    rw [show hearS ⟨0, 0, 1, m⟩ 4 n = some (⟨0, 0, 1, m⟩, 0) from by unfold hearS rightB; simp [sideB, q0, q1, q2, q3, q4, q5]] at this
    exact this
  tab2 := fun w => table_7 w
  idx2 := fun _ => by kernel_rfl
  two := .inl ⟨by decide, .inr ⟨rfl, rfl⟩⟩

theorem rnd_3_0 (n m : Int) (q0 : ¬ n = 0) (q1 : ¬ m = 0) (q2 : ¬ n + 1 = 0) (q3 : ¬ m + 1 = 0) :
    Rnd ⟨1, n, 1, m⟩ n m 3 0 1 11 ⟨#[111, 117, 116, 32, 115, 117, 98, 115, 99, 114, 105, 98, 101]⟩ ⟨#[105, 110, 32, 115, 117, 98, 115, 99, 114, 105, 98, 101]⟩ ⟨1, n, 1, m⟩ 0 0 (.agg #[.int .i64 1, .int .i64 (-1), .int .i64 3, .int .i64 (-1), .int .i64 (-1), .int .i64 (-1), .int .i64 7, .int .i64 (-1), .int .i64 (-1)]) (-1) ⟨1, n, 1, (m + 1)⟩ (m + 1) 42 (.agg #[.int .i64 2, .int .i64 3, .int .i64 (-1), .int .i64 (-1), .int .i64 5, .int .i64 (-1), .int .i64 (-1), .int .i64 (-1), .int .i64 (-1)]) (-1) where
  fK := rfl
  fev := rfl
  mkv := rfl
  fmk := rfl
  fev2 := rfl
  act := fun w => by
    have q4 : ¬ 0 = n := fun e => q0 e.symm
    have q5 : ¬ 0 = m := fun e => q1 e.symm
    have := act_any ⟨1, n, 1, m⟩ 11 (n + 1) w
    rw [show actS ⟨1, n, 1, m⟩ 11 (n + 1) = some (⟨1, n, 1, m⟩, 0, 0) from by unfold actS rightB; simp [sideB, q0, q1, q2, q3, q4, q5]] at this
    exact this
  tab := fun w => table_0 w
  idx := fun _ => by kernel_rfl
  one := .inl ⟨by decide, rfl, rfl⟩
  fnum := rfl
  hear := fun w => by
    have q4 : ¬ 0 = n := fun e => q0 e.symm
    have q5 : ¬ 0 = m := fun e => q1 e.symm
    have := hear_any ⟨1, n, 1, m⟩ 1 (m + 1) w
    rw [show hearS ⟨1, n, 1, m⟩ 1 (m + 1) = some (⟨1, n, 1, (m + 1)⟩, 42) from by unfold hearS rightB; simp [sideB, q0, q1, q2, q3, q4, q5]] at this
    exact this
  tab2 := fun w => table_4 w
  idx2 := fun _ => by kernel_rfl
  two := .inl ⟨by decide, .inl rfl⟩

theorem rnd_3_1 (n m : Int) (q0 : ¬ n = 0) (q1 : ¬ m = 0) (q2 : ¬ n + 1 = 0) (q3 : ¬ m + 1 = 0) :
    Rnd ⟨1, n, 1, m⟩ n m 3 1 2 13 ⟨#[111, 117, 116, 32, 117, 110, 115, 117, 98, 115, 99, 114, 105, 98, 101]⟩ ⟨#[105, 110, 32, 117, 110, 115, 117, 98, 115, 99, 114, 105, 98, 101]⟩ ⟨0, 0, 1, m⟩ 2 n (.agg #[.int .i64 (-1), .int .i64 0, .int .i64 (-1), .int .i64 2, .int .i64 0, .int .i64 2, .int .i64 (-1), .int .i64 6, .int .i64 6]) 2 ⟨1, n, 0, 0⟩ m 44 (.agg #[.int .i64 (-1), .int .i64 (-1), .int .i64 0, .int .i64 1, .int .i64 (-1), .int .i64 4, .int .i64 0, .int .i64 1, .int .i64 4]) 1 where
  fK := rfl
  fev := rfl
  mkv := rfl
  fmk := rfl
  fev2 := rfl
  act := fun w => by
    have q4 : ¬ 0 = n := fun e => q0 e.symm
    have q5 : ¬ 0 = m := fun e => q1 e.symm
    have := act_any ⟨1, n, 1, m⟩ 13 (n + 1) w
    rw [show actS ⟨1, n, 1, m⟩ 13 (n + 1) = some (⟨0, 0, 1, m⟩, 2, n) from by unfold actS rightB; simp [sideB, q0, q1, q2, q3, q4, q5]] at this
    exact this
  tab := fun w => table_1 w
  idx := fun _ => by kernel_rfl
  one := .inr ⟨by decide, by decide, by decide, ⟨#[78, 111, 110, 101, 32, 43, 32, 80, 101, 110, 100, 105, 110, 103, 32, 73, 110]⟩, rfl, fun w => state_01 0 m (by simp [sideB, q0, q1, q2, q3]) w⟩
  fnum := rfl
  hear := fun w => by
    have q4 : ¬ 0 = n := fun e => q0 e.symm
    have q5 : ¬ 0 = m := fun e => q1 e.symm
    have := hear_any ⟨1, n, 1, m⟩ 2 m w
    rw [show hearS ⟨1, n, 1, m⟩ 2 m = some (⟨1, n, 0, 0⟩, 44) from by unfold hearS rightB; simp [sideB, q0, q1, q2, q3, q4, q5]] at this
    exact this
  tab2 := fun w => table_5 w
  idx2 := fun _ => by kernel_rfl
  two := .inr ⟨by decide, by decide, by decide, ⟨#[78, 111, 110, 101, 32, 43, 32, 80, 101, 110, 100, 105, 110, 103, 32, 79, 117, 116]⟩, rfl, fun w => state_10 n 0 (by simp [sideB, q0, q1, q2, q3]) w⟩

theorem rnd_3_2 (n m : Int) (q0 : ¬ n = 0) (q1 : ¬ m = 0) (q2 : ¬ n + 1 = 0) (q3 : ¬ m + 1 = 0) :
    Rnd ⟨1, n, 1, m⟩ n m 3 2 3 12 ⟨#[111, 117, 116, 32, 115, 117, 98, 115, 99, 114, 105, 98, 101, 100]⟩ ⟨#[105, 110, 32, 115, 117, 98, 115, 99, 114, 105, 98, 101, 100]⟩ ⟨1, n, 2, m⟩ 3 m (.agg #[.int .i64 (-1), .int .i64 (-1), .int .i64 6, .int .i64 7, .int .i64 (-1), .int .i64 8, .int .i64 (-1), .int .i64 (-1), .int .i64 (-1)]) 7 ⟨2, n, 1, m⟩ n 43 (.agg #[.int .i64 (-1), .int .i64 4, .int .i64 (-1), .int .i64 5, .int .i64 (-1), .int .i64 (-1), .int .i64 (-1), .int .i64 8, .int .i64 (-1)]) 5 where
  fK := rfl
  fev := rfl
  mkv := rfl
  fmk := rfl
  fev2 := rfl
  act := fun w => by
    have q4 : ¬ 0 = n := fun e => q0 e.symm
    have q5 : ¬ 0 = m := fun e => q1 e.symm
    have := act_any ⟨1, n, 1, m⟩ 12 (n + 1) w
    rw [show actS ⟨1, n, 1, m⟩ 12 (n + 1) = some (⟨1, n, 2, m⟩, 3, m) from by unfold actS rightB; simp [sideB, q0, q1, q2, q3, q4, q5]] at this
    exact this
  tab := fun w => table_2 w
  idx := fun _ => by kernel_rfl
  one := .inr ⟨by decide, by decide, by decide, ⟨#[70, 114, 111, 109, 32, 43, 32, 80, 101, 110, 100, 105, 110, 103, 32, 79, 117, 116]⟩, rfl, fun w => state_12 n m (by simp [sideB, q0, q1, q2, q3]) w⟩
  fnum := rfl
  hear := fun w => by
    have q4 : ¬ 0 = n := fun e => q0 e.symm
    have q5 : ¬ 0 = m := fun e => q1 e.symm
    have := hear_any ⟨1, n, 1, m⟩ 3 n w
    rw [show hearS ⟨1, n, 1, m⟩ 3 n = some (⟨2, n, 1, m⟩, 43) from by unfold hearS rightB; simp [sideB, q0, q1, q2, q3, q4, q5]] at this
    exact this
  tab2 := fun w => table_6 w
  idx2 := fun _ => by kernel_rfl
  two := .inr ⟨by decide, by decide, by decide, ⟨#[84, 111, 32, 43, 32, 80, 101, 110, 100, 105, 110, 103, 32, 73, 110]⟩, rfl, fun w => state_21 n m (by simp [sideB, q0, q1, q2, q3]) w⟩

theorem rnd_3_3 (n m : Int) (q0 : ¬ n = 0) (q1 : ¬ m = 0) (q2 : ¬ n + 1 = 0) (q3 : ¬ m + 1 = 0) :
    Rnd ⟨1, n, 1, m⟩ n m 3 3 4 14 ⟨#[111, 117, 116, 32, 117, 110, 115, 117, 98, 115, 99, 114, 105, 98, 101, 100]⟩ ⟨#[105, 110, 32, 117, 110, 115, 117, 98, 115, 99, 114, 105, 98, 101, 100]⟩ ⟨1, n, 0, 0⟩ 4 m (.agg #[.int .i64 (-1), .int .i64 (-1), .int .i64 0, .int .i64 1, .int .i64 (-1), .int .i64 4, .int .i64 0, .int .i64 1, .int .i64 4]) 1 ⟨0, 0, 1, m⟩ n 45 (.agg #[.int .i64 (-1), .int .i64 0, .int .i64 (-1), .int .i64 2, .int .i64 0, .int .i64 2, .int .i64 (-1), .int .i64 6, .int .i64 6]) 2 where
  fK := rfl
  fev := rfl
  mkv := rfl
  fmk := rfl
  fev2 := rfl
  act := fun w => by
    have q4 : ¬ 0 = n := fun e => q0 e.symm
    have q5 : ¬ 0 = m := fun e => q1 e.symm
    have := act_any ⟨1, n, 1, m⟩ 14 (n + 1) w
    rw [show actS ⟨1, n, 1, m⟩ 14 (n + 1) = some (⟨1, n, 0, 0⟩, 4, m) from by unfold actS rightB; simp [sideB, q0, q1, q2, q3, q4, q5]] at this
    exact this
  tab := fun w => table_3 w
  idx := fun _ => by kernel_rfl
  one := .inr ⟨by decide, by decide, by decide, ⟨#[78, 111, 110, 101, 32, 43, 32, 80, 101, 110, 100, 105, 110, 103, 32, 79, 117, 116]⟩, rfl, fun w => state_10 n 0 (by simp [sideB, q0, q1, q2, q3]) w⟩
  fnum := rfl
  hear := fun w => by
    have q4 : ¬ 0 = n := fun e => q0 e.symm
    have q5 : ¬ 0 = m := fun e => q1 e.symm
    have := hear_any ⟨1, n, 1, m⟩ 4 n w
    rw [show hearS ⟨1, n, 1, m⟩ 4 n = some (⟨0, 0, 1, m⟩, 45) from by unfold hearS rightB; simp [sideB, q0, q1, q2, q3, q4, q5]] at this
    exact this
  tab2 := fun w => table_7 w
  idx2 := fun _ => by kernel_rfl
  two := .inr ⟨by decide, by decide, by decide, ⟨#[78, 111, 110, 101, 32, 43, 32, 80, 101, 110, 100, 105, 110, 103, 32, 73, 110]⟩, rfl, fun w => state_01 0 m (by simp [sideB, q0, q1, q2, q3]) w⟩

theorem rnd_4_0 (n m : Int) (q0 : ¬ n = 0) (q1 : ¬ m = 0) (q2 : ¬ n + 1 = 0) (q3 : ¬ m + 1 = 0) :
    Rnd ⟨2, n, 0, 0⟩ n m 4 0 1 11 ⟨#[111, 117, 116, 32, 115, 117, 98, 115, 99, 114, 105, 98, 101]⟩ ⟨#[105, 110, 32, 115, 117, 98, 115, 99, 114, 105, 98, 101]⟩ ⟨2, n, 0, 0⟩ 0 0 (.agg #[.int .i64 1, .int .i64 (-1), .int .i64 3, .int .i64 (-1), .int .i64 (-1), .int .i64 (-1), .int .i64 7, .int .i64 (-1), .int .i64 (-1)]) (-1) ⟨2, n, 1, (m + 1)⟩ (m + 1) 42 (.agg #[.int .i64 2, .int .i64 3, .int .i64 (-1), .int .i64 (-1), .int .i64 5, .int .i64 (-1), .int .i64 (-1), .int .i64 (-1), .int .i64 (-1)]) 5 where
  fK := rfl
  fev := rfl
  mkv := rfl
  fmk := rfl
  fev2 := rfl
  act := fun w => by
    have q4 : ¬ 0 = n := fun e => q0 e.symm
    have q5 : ¬ 0 = m := fun e => q1 e.symm
    have := act_any ⟨2, n, 0, 0⟩ 11 (n + 1) w
    rw [show actS ⟨2, n, 0, 0⟩ 11 (n + 1) = some (⟨2, n, 0, 0⟩, 0, 0) from by unfold actS rightB; simp [sideB, q0, q1, q2, q3, q4, q5]] at this
    exact this
  tab := fun w => table_0 w
  idx := fun _ => by kernel_rfl
  one := .inl ⟨by decide, rfl, rfl⟩
  fnum := rfl
  hear := fun w => by
    have q4 : ¬ 0 = n := fun e => q0 e.symm
    have q5 : ¬ 0 = m := fun e => q1 e.symm
    have := hear_any ⟨2, n, 0, 0⟩ 1 (m + 1) w
    rw [show hearS ⟨2, n, 0, 0⟩ 1 (m + 1) = some (⟨2, n, 1, (m + 1)⟩, 42) from by unfold hearS rightB; simp [sideB, q0, q1, q2, q3, q4, q5]] at this
    exact this
  tab2 := fun w => table_4 w
  idx2 := fun _ => by kernel_rfl
  two := .inr ⟨by decide, by decide, by decide, ⟨#[84, 111, 32, 43, 32, 80, 101, 110, 100, 105, 110, 103, 32, 73, 110]⟩, rfl, fun w => state_21 n (m + 1) (by simp [sideB, q0, q1, q2, q3]) w⟩

theorem rnd_4_1 (n m : Int) (q0 : ¬ n = 0) (q1 : ¬ m = 0) (q2 : ¬ n + 1 = 0) (q3 : ¬ m + 1 = 0) :
    Rnd ⟨2, n, 0, 0⟩ n m 4 1 2 13 ⟨#[111, 117, 116, 32, 117, 110, 115, 117, 98, 115, 99, 114, 105, 98, 101]⟩ ⟨#[105, 110, 32, 117, 110, 115, 117, 98, 115, 99, 114, 105, 98, 101]⟩ ⟨0, 0, 0, 0⟩ 2 n (.agg #[.int .i64 (-1), .int .i64 0, .int .i64 (-1), .int .i64 2, .int .i64 0, .int .i64 2, .int .i64 (-1), .int .i64 6, .int .i64 6]) 0 ⟨2, n, 0, 0⟩ m 0 (.agg #[.int .i64 (-1), .int .i64 (-1), .int .i64 0, .int .i64 1, .int .i64 (-1), .int .i64 4, .int .i64 0, .int .i64 1, .int .i64 4]) (-1) where
  fK := rfl
  fev := rfl
  mkv := rfl
  fmk := rfl
  fev2 := rfl
  act := fun w => by
    have q4 : ¬ 0 = n := fun e => q0 e.symm
    have q5 : ¬ 0 = m := fun e => q1 e.symm
    have := act_any ⟨2, n, 0, 0⟩ 13 (n + 1) w
    rw [show actS ⟨2, n, 0, 0⟩ 13 (n + 1) = some (⟨0, 0, 0, 0⟩, 2, n) from by unfold actS rightB; simp [sideB, q0, q1, q2, q3, q4, q5]] at this
    exact this
  tab := fun w => table_1 w
  idx := fun _ => by kernel_rfl
  one := .inr ⟨by decide, by decide, by decide, ⟨#[78, 111, 110, 101]⟩, rfl, fun w => state_00 0 0 (by simp [sideB, q0, q1, q2, q3]) w⟩
  fnum := rfl
  hear := fun w => by
    have q4 : ¬ 0 = n := fun e => q0 e.symm
    have q5 : ¬ 0 = m := fun e => q1 e.symm
    have := hear_any ⟨2, n, 0, 0⟩ 2 m w
    rw [show hearS ⟨2, n, 0, 0⟩ 2 m = some (⟨2, n, 0, 0⟩, 0) from by unfold hearS rightB; simp [sideB, q0, q1, q2, q3, q4, q5]] at this
    exact this
  tab2 := fun w => table_5 w
  idx2 := fun _ => by kernel_rfl
  two := .inl ⟨by decide, .inr ⟨rfl, rfl⟩⟩

theorem rnd_4_2 (n m : Int) (q0 : ¬ n = 0) (q1 : ¬ m = 0) (q2 : ¬ n + 1 = 0) (q3 : ¬ m + 1 = 0) :
    Rnd ⟨2, n, 0, 0⟩ n m 4 2 3 12 ⟨#[111, 117, 116, 32, 115, 117, 98, 115, 99, 114, 105, 98, 101, 100]⟩ ⟨#[105, 110, 32, 115, 117, 98, 115, 99, 114, 105, 98, 101, 100]⟩ ⟨2, n, 0, 0⟩ 0 0 (.agg #[.int .i64 (-1), .int .i64 (-1), .int .i64 6, .int .i64 7, .int .i64 (-1), .int .i64 8, .int .i64 (-1), .int .i64 (-1), .int .i64 (-1)]) (-1) ⟨2, n, 0, 0⟩ n 0 (.agg #[.int .i64 (-1), .int .i64 4, .int .i64 (-1), .int .i64 5, .int .i64 (-1), .int .i64 (-1), .int .i64 (-1), .int .i64 8, .int .i64 (-1)]) (-1) where
  fK := rfl
  fev := rfl
  mkv := rfl
  fmk := rfl
  fev2 := rfl
  act := fun w => by
    have q4 : ¬ 0 = n := fun e => q0 e.symm
    have q5 : ¬ 0 = m := fun e => q1 e.symm
    have := act_any ⟨2, n, 0, 0⟩ 12 (n + 1) w
    rw [show actS ⟨2, n, 0, 0⟩ 12 (n + 1) = some (⟨2, n, 0, 0⟩, 0, 0) from by unfold actS rightB; simp [sideB, q0, q1, q2, q3, q4, q5]] at this
    exact this
  tab := fun w => table_2 w
  idx := fun _ => by kernel_rfl
  one := .inl ⟨by decide, rfl, rfl⟩
  fnum := rfl
  hear := fun w => by
    have q4 : ¬ 0 = n := fun e => q0 e.symm
    have q5 : ¬ 0 = m := fun e => q1 e.symm
    have := hear_any ⟨2, n, 0, 0⟩ 3 n w
    rw [show hearS ⟨2, n, 0, 0⟩ 3 n = some (⟨2, n, 0, 0⟩, 0) from by unfold hearS rightB; simp [sideB, q0, q1, q2, q3, q4, q5]] at this
    exact this
  tab2 := fun w => table_6 w
  idx2 := fun _ => by kernel_rfl
  two := .inl ⟨by decide, .inr ⟨rfl, rfl⟩⟩

theorem rnd_4_3 (n m : Int) (q0 : ¬ n = 0) (q1 : ¬ m = 0) (q2 : ¬ n + 1 = 0) (q3 : ¬ m + 1 = 0) :
    Rnd ⟨2, n, 0, 0⟩ n m 4 3 4 14 ⟨#[111, 117, 116, 32, 117, 110, 115, 117, 98, 115, 99, 114, 105, 98, 101, 100]⟩ ⟨#[105, 110, 32, 117, 110, 115, 117, 98, 115, 99, 114, 105, 98, 101, 100]⟩ ⟨2, n, 0, 0⟩ 0 0 (.agg #[.int .i64 (-1), .int .i64 (-1), .int .i64 0, .int .i64 1, .int .i64 (-1), .int .i64 4, .int .i64 0, .int .i64 1, .int .i64 4]) (-1) ⟨0, 0, 0, 0⟩ n 45 (.agg #[.int .i64 (-1), .int .i64 0, .int .i64 (-1), .int .i64 2, .int .i64 0, .int .i64 2, .int .i64 (-1), .int .i64 6, .int .i64 6]) 0 where
  fK := rfl
  fev := rfl
  mkv := rfl
  fmk := rfl
  fev2 := rfl
  act := fun w => by
    have q4 : ¬ 0 = n := fun e => q0 e.symm
    have q5 : ¬ 0 = m := fun e => q1 e.symm
    have := act_any ⟨2, n, 0, 0⟩ 14 (n + 1) w
    rw [show actS ⟨2, n, 0, 0⟩ 14 (n + 1) = some (⟨2, n, 0, 0⟩, 0, 0) from by unfold actS rightB; simp [sideB, q0, q1, q2, q3, q4, q5]] at this
    exact this
  tab := fun w => table_3 w
  idx := fun _ => by kernel_rfl
  one := .inl ⟨by decide, rfl, rfl⟩
  fnum := rfl
  hear := fun w => by
    have q4 : ¬ 0 = n := fun e => q0 e.symm
    have q5 : ¬ 0 = m := fun e => q1 e.symm
    have := hear_any ⟨2, n, 0, 0⟩ 4 n w
    rw [show hearS ⟨2, n, 0, 0⟩ 4 n = some (⟨0, 0, 0, 0⟩, 45) from by unfold hearS rightB; simp [sideB, q0, q1, q2, q3, q4, q5]] at this
    exact this
  tab2 := fun w => table_7 w
  idx2 := fun _ => by kernel_rfl
  two := .inr ⟨by decide, by decide, by decide, ⟨#[78, 111, 110, 101]⟩, rfl, fun w => state_00 0 0 (by simp [sideB, q0, q1, q2, q3]) w⟩

theorem rnd_5_0 (n m : Int) (q0 : ¬ n = 0) (q1 : ¬ m = 0) (q2 : ¬ n + 1 = 0) (q3 : ¬ m + 1 = 0) :
    Rnd ⟨2, n, 1, m⟩ n m 5 0 1 11 ⟨#[111, 117, 116, 32, 115, 117, 98, 115, 99, 114, 105, 98, 101]⟩ ⟨#[105, 110, 32, 115, 117, 98, 115, 99, 114, 105, 98, 101]⟩ ⟨2, n, 1, m⟩ 0 0 (.agg #[.int .i64 1, .int .i64 (-1), .int .i64 3, .int .i64 (-1), .int .i64 (-1), .int .i64 (-1), .int .i64 7, .int .i64 (-1), .int .i64 (-1)]) (-1) ⟨2, n, 1, (m + 1)⟩ (m + 1) 42 (.agg #[.int .i64 2, .int .i64 3, .int .i64 (-1), .int .i64 (-1), .int .i64 5, .int .i64 (-1), .int .i64 (-1), .int .i64 (-1), .int .i64 (-1)]) (-1) where
  fK := rfl
  fev := rfl
  mkv := rfl
  fmk := rfl
  fev2 := rfl
  act := fun w => by
    have q4 : ¬ 0 = n := fun e => q0 e.symm
    have q5 : ¬ 0 = m := fun e => q1 e.symm
    have := act_any ⟨2, n, 1, m⟩ 11 (n + 1) w
    rw [show actS ⟨2, n, 1, m⟩ 11 (n + 1) = some (⟨2, n, 1, m⟩, 0, 0) from by unfold actS rightB; simp [sideB, q0, q1, q2, q3, q4, q5]] at this
    exact this
  tab := fun w => table_0 w
  idx := fun _ => by kernel_rfl
  one := .inl ⟨by decide, rfl, rfl⟩
  fnum := rfl
  hear := fun w => by
    have q4 : ¬ 0 = n := fun e => q0 e.symm
    have q5 : ¬ 0 = m := fun e => q1 e.symm
    have := hear_any ⟨2, n, 1, m⟩ 1 (m + 1) w
    rw [show hearS ⟨2, n, 1, m⟩ 1 (m + 1) = some (⟨2, n, 1, (m + 1)⟩, 42) from by unfold hearS rightB; simp [sideB, q0, q1, q2, q3, q4, q5]] at this
    exact this
  tab2 := fun w => table_4 w
  idx2 := fun _ => by kernel_rfl
  two := .inl ⟨by decide, .inl rfl⟩

theorem rnd_5_1 (n m : Int) (q0 : ¬ n = 0) (q1 : ¬ m = 0) (q2 : ¬ n + 1 = 0) (q3 : ¬ m + 1 = 0) :
    Rnd ⟨2, n, 1, m⟩ n m 5 1 2 13 ⟨#[111, 117, 116, 32, 117, 110, 115, 117, 98, 115, 99, 114, 105, 98, 101]⟩ ⟨#[105, 110, 32, 117, 110, 115, 117, 98, 115, 99, 114, 105, 98, 101]⟩ ⟨0, 0, 1, m⟩ 2 n (.agg #[.int .i64 (-1), .int .i64 0, .int .i64 (-1), .int .i64 2, .int .i64 0, .int .i64 2, .int .i64 (-1), .int .i64 6, .int .i64 6]) 2 ⟨2, n, 0, 0⟩ m 44 (.agg #[.int .i64 (-1), .int .i64 (-1), .int .i64 0, .int .i64 1, .int .i64 (-1), .int .i64 4, .int .i64 0, .int .i64 1, .int .i64 4]) 4 where
  fK := rfl
  fev := rfl
  mkv := rfl
  fmk := rfl
  fev2 := rfl
  act := fun w => by
    have q4 : ¬ 0 = n := fun e => q0 e.symm
    have q5 : ¬ 0 = m := fun e => q1 e.symm
    have := act_any ⟨2, n, 1, m⟩ 13 (n + 1) w
    rw [show actS ⟨2, n, 1, m⟩ 13 (n + 1) = some (⟨0, 0, 1, m⟩, 2, n) from by unfold actS rightB; simp [sideB, q0, q1, q2, q3, q4, q5]] at this
    exact this
  tab := fun w => table_1 w
  idx := fun _ => by kernel_rfl
  one := .inr ⟨by decide, by decide, by decide, ⟨#[78, 111, 110, 101, 32, 43, 32, 80, 101, 110, 100, 105, 110, 103, 32, 73, 110]⟩, rfl, fun w => state_01 0 m (by simp [sideB, q0, q1, q2, q3]) w⟩
  fnum := rfl
  hear := fun w => by
    have q4 : ¬ 0 = n := fun e => q0 e.symm
    have q5 : ¬ 0 = m := fun e => q1 e.symm
    have := hear_any ⟨2, n, 1, m⟩ 2 m w
    rw [show hearS ⟨2, n, 1, m⟩ 2 m = some (⟨2, n, 0, 0⟩, 44) from by unfold hearS rightB; simp [sideB, q0, q1, q2, q3, q4, q5]] at this
    exact this
  tab2 := fun w => table_5 w
  idx2 := fun _ => by kernel_rfl
  two := .inr ⟨by decide, by decide, by decide, ⟨#[84, 111]⟩, rfl, fun w => state_20 n 0 (by simp [sideB, q0, q1, q2, q3]) w⟩

theorem rnd_5_2 (n m : Int) (q0 : ¬ n = 0) (q1 : ¬ m = 0) (q2 : ¬ n + 1 = 0) (q3 : ¬ m + 1 = 0) :
    Rnd ⟨2, n, 1, m⟩ n m 5 2 3 12 ⟨#[111, 117, 116, 32, 115, 117, 98, 115, 99, 114, 105, 98, 101, 100]⟩ ⟨#[105, 110, 32, 115, 117, 98, 115, 99, 114, 105, 98, 101, 100]⟩ ⟨2, n, 2, m⟩ 3 m (.agg #[.int .i64 (-1), .int .i64 (-1), .int .i64 6, .int .i64 7, .int .i64 (-1), .int .i64 8, .int .i64 (-1), .int .i64 (-1), .int .i64 (-1)]) 8 ⟨2, n, 1, m⟩ n 0 (.agg #[.int .i64 (-1), .int .i64 4, .int .i64 (-1), .int .i64 5, .int .i64 (-1), .int .i64 (-1), .int .i64 (-1), .int .i64 8, .int .i64 (-1)]) (-1) where
  fK := rfl
  fev := rfl
  mkv := rfl
  fmk := rfl
  fev2 := rfl
  act := fun w => by
    have q4 : ¬ 0 = n := fun e => q0 e.symm
    have q5 : ¬ 0 = m := fun e => q1 e.symm
    have := act_any ⟨2, n, 1, m⟩ 12 (n + 1) w
    rw [show actS ⟨2, n, 1, m⟩ 12 (n + 1) = some (⟨2, n, 2, m⟩, 3, m) from by unfold actS rightB; simp [sideB, q0, q1, q2, q3, q4, q5]] at this
    exact this
  tab := fun w => table_2 w
  idx := fun _ => by kernel_rfl
  one := .inr ⟨by decide, by decide, by decide, ⟨#[66, 111, 116, 104]⟩, rfl, fun w => state_22 n m (by simp [sideB, q0, q1, q2, q3]) w⟩
  fnum := rfl
  hear := fun w => by
    have q4 : ¬ 0 = n := fun e => q0 e.symm
    have q5 : ¬ 0 = m := fun e => q1 e.symm
    have := hear_any ⟨2, n, 1, m⟩ 3 n w
    rw [show hearS ⟨2, n, 1, m⟩ 3 n = some (⟨2, n, 1, m⟩, 0) from by unfold hearS rightB; simp [sideB, q0, q1, q2, q3, q4, q5]] at this
    exact this
  tab2 := fun w => table_6 w
  idx2 := fun _ => by kernel_rfl
  two := .inl ⟨by decide, .inr ⟨rfl, rfl⟩⟩

theorem rnd_5_3 (n m : Int) (q0 : ¬ n = 0) (q1 : ¬ m = 0) (q2 : ¬ n + 1 = 0) (q3 : ¬ m + 1 = 0) :
    Rnd ⟨2, n, 1, m⟩ n m 5 3 4 14 ⟨#[111, 117, 116, 32, 117, 110, 115, 117, 98, 115, 99, 114, 105, 98, 101, 100]⟩ ⟨#[105, 110, 32, 117, 110, 115, 117, 98, 115, 99, 114, 105, 98, 101, 100]⟩ ⟨2, n, 0, 0⟩ 4 m (.agg #[.int .i64 (-1), .int .i64 (-1), .int .i64 0, .int .i64 1, .int .i64 (-1), .int .i64 4, .int .i64 0, .int .i64 1, .int .i64 4]) 4 ⟨0, 0, 1, m⟩ n 45 (.agg #[.int .i64 (-1), .int .i64 0, .int .i64 (-1), .int .i64 2, .int .i64 0, .int .i64 2, .int .i64 (-1), .int .i64 6, .int .i64 6]) 2 where
  fK := rfl
  fev := rfl
  mkv := rfl
  fmk := rfl
  fev2 := rfl
  act := fun w => by
    have q4 : ¬ 0 = n := fun e => q0 e.symm
    have q5 : ¬ 0 = m := fun e => q1 e.symm
    have := act_any ⟨2, n, 1, m⟩ 14 (n + 1) w
    rw [show actS ⟨2, n, 1, m⟩ 14 (n + 1) = some (⟨2, n, 0, 0⟩, 4, m) from by unfold actS rightB; simp [sideB, q0, q1, q2, q3, q4, q5]] at this
    exact this
  tab := fun w => table_3 w
  idx := fun _ => by kernel_rfl
  one := .inr ⟨by decide, by decide, by decide, ⟨#[84, 111]⟩, rfl, fun w => state_20 n 0 (by simp [sideB, q0, q1, q2, q3]) w⟩
  fnum := rfl
  hear := fun w => by
    have q4 : ¬ 0 = n := fun e => q0 e.symm
    have q5 : ¬ 0 = m := fun e => q1 e.symm
    have := hear_any ⟨2, n, 1, m⟩ 4 n w
    rw [show hearS ⟨2, n, 1, m⟩ 4 n = some (⟨0, 0, 1, m⟩, 45) from by unfold hearS rightB; simp [sideB, q0, q1, q2, q3, q4, q5]] at this
    exact this
  tab2 := fun w => table_7 w
  idx2 := fun _ => by kernel_rfl
  two := .inr ⟨by decide, by decide, by decide, ⟨#[78, 111, 110, 101, 32, 43, 32, 80, 101, 110, 100, 105, 110, 103, 32, 73, 110]⟩, rfl, fun w => state_01 0 m (by simp [sideB, q0, q1, q2, q3]) w⟩

theorem rnd_6_0 (n m : Int) (q0 : ¬ n = 0) (q1 : ¬ m = 0) (q2 : ¬ n + 1 = 0) (q3 : ¬ m + 1 = 0) :
    Rnd ⟨0, 0, 2, m⟩ n m 6 0 1 11 ⟨#[111, 117, 116, 32, 115, 117, 98, 115, 99, 114, 105, 98, 101]⟩ ⟨#[105, 110, 32, 115, 117, 98, 115, 99, 114, 105, 98, 101]⟩ ⟨1, (n + 1), 2, m⟩ 1 (n + 1) (.agg #[.int .i64 1, .int .i64 (-1), .int .i64 3, .int .i64 (-1), .int .i64 (-1), .int .i64 (-1), .int .i64 7, .int .i64 (-1), .int .i64 (-1)]) 7 ⟨0, 0, 1, (m + 1)⟩ (m + 1) 42 (.agg #[.int .i64 2, .int .i64 3, .int .i64 (-1), .int .i64 (-1), .int .i64 5, .int .i64 (-1), .int .i64 (-1), .int .i64 (-1), .int .i64 (-1)]) (-1) where
  fK := rfl
  fev := rfl
  mkv := rfl
  fmk := rfl
  fev2 := rfl
  act := fun w => by
    have q4 : ¬ 0 = n := fun e => q0 e.symm
    have q5 : ¬ 0 = m := fun e => q1 e.symm
    have := act_any ⟨0, 0, 2, m⟩ 11 (n + 1) w
    rw [show actS ⟨0, 0, 2, m⟩ 11 (n + 1) = some (⟨1, (n + 1), 2, m⟩, 1, (n + 1)) from by unfold actS rightB; simp [sideB, q0, q1, q2, q3, q4, q5]] at this
    exact this
  tab := fun w => table_0 w
  idx := fun _ => by kernel_rfl
  one := .inr ⟨by decide, by decide, by decide, ⟨#[70, 114, 111, 109, 32, 43, 32, 80, 101, 110, 100, 105, 110, 103, 32, 79, 117, 116]⟩, rfl, fun w => state_12 (n + 1) m (by simp [sideB, q0, q1, q2, q3]) w⟩
  fnum := rfl
  hear := fun w => by
    have q4 : ¬ 0 = n := fun e => q0 e.symm
    have q5 : ¬ 0 = m := fun e => q1 e.symm
    have := hear_any ⟨0, 0, 2, m⟩ 1 (m + 1) w
    rw [show hearS ⟨0, 0, 2, m⟩ 1 (m + 1) = some (⟨0, 0, 1, (m + 1)⟩, 42) from by unfold hearS rightB; simp [sideB, q0, q1, q2, q3, q4, q5]] at this
    exact this
  tab2 := fun w => table_4 w
  idx2 := fun _ => by kernel_rfl
  two := .inl ⟨by decide, .inl rfl⟩

theorem rnd_6_1 (n m : Int) (q0 : ¬ n = 0) (q1 : ¬ m = 0) (q2 : ¬ n + 1 = 0) (q3 : ¬ m + 1 = 0) :
    Rnd ⟨0, 0, 2, m⟩ n m 6 1 2 13 ⟨#[111, 117, 116, 32, 117, 110, 115, 117, 98, 115, 99, 114, 105, 98, 101]⟩ ⟨#[105, 110, 32, 117, 110, 115, 117, 98, 115, 99, 114, 105, 98, 101]⟩ ⟨0, 0, 2, m⟩ 0 0 (.agg #[.int .i64 (-1), .int .i64 0, .int .i64 (-1), .int .i64 2, .int .i64 0, .int .i64 2, .int .i64 (-1), .int .i64 6, .int .i64 6]) (-1) ⟨0, 0, 0, 0⟩ m 44 (.agg #[.int .i64 (-1), .int .i64 (-1), .int .i64 0, .int .i64 1, .int .i64 (-1), .int .i64 4, .int .i64 0, .int .i64 1, .int .i64 4]) 0 where
  fK := rfl
  fev := rfl
  mkv := rfl
  fmk := rfl
  fev2 := rfl
  act := fun w => by
    have q4 : ¬ 0 = n := fun e => q0 e.symm
    have q5 : ¬ 0 = m := fun e => q1 e.symm
    have := act_any ⟨0, 0, 2, m⟩ 13 (n + 1) w
    rw [show actS ⟨0, 0, 2, m⟩ 13 (n + 1) = some (⟨0, 0, 2, m⟩, 0, 0) from by unfold actS rightB; simp [sideB, q0, q1, q2, q3, q4, q5]] at this
    exact this
  tab := fun w => table_1 w
  idx := fun _ => by kernel_rfl
  one := .inl ⟨by decide, rfl, rfl⟩
  fnum := rfl
  hear := fun w => by
    have q4 : ¬ 0 = n := fun e => q0 e.symm
    have q5 : ¬ 0 = m := fun e => q1 e.symm
    have := hear_any ⟨0, 0, 2, m⟩ 2 m w
    rw [show hearS ⟨0, 0, 2, m⟩ 2 m = some (⟨0, 0, 0, 0⟩, 44) from by unfold hearS rightB; simp [sideB, q0, q1, q2, q3, q4, q5]] at this
    exact this
  tab2 := fun w => table_5 w
  idx2 := fun _ => by kernel_rfl
  two := .inr ⟨by decide, by decide, by decide, ⟨#[78, 111, 110, 101]⟩, rfl, fun w => state_00 0 0 (by simp [sideB, q0, q1, q2, q3]) w⟩

theorem rnd_6_2 (n m : Int) (q0 : ¬ n = 0) (q1 : ¬ m = 0) (q2 : ¬ n + 1 = 0) (q3 : ¬ m + 1 = 0) :
    Rnd ⟨0, 0, 2, m⟩ n m 6 2 3 12 ⟨#[111, 117, 116, 32, 115, 117, 98, 115, 99, 114, 105, 98, 101, 100]⟩ ⟨#[105, 110, 32, 115, 117, 98, 115, 99, 114, 105, 98, 101, 100]⟩ ⟨0, 0, 2, m⟩ 0 0 (.agg #[.int .i64 (-1), .int .i64 (-1), .int .i64 6, .int .i64 7, .int .i64 (-1), .int .i64 8, .int .i64 (-1), .int .i64 (-1), .int .i64 (-1)]) (-1) ⟨0, 0, 2, m⟩ n 0 (.agg #[.int .i64 (-1), .int .i64 4, .int .i64 (-1), .int .i64 5, .int .i64 (-1), .int .i64 (-1), .int .i64 (-1), .int .i64 8, .int .i64 (-1)]) (-1) where
  fK := rfl
  fev := rfl
  mkv := rfl
  fmk := rfl
  fev2 := rfl
  act := fun w => by
    have q4 : ¬ 0 = n := fun e => q0 e.symm
    have q5 : ¬ 0 = m := fun e => q1 e.symm
    have := act_any ⟨0, 0, 2, m⟩ 12 (n + 1) w
    rw [show actS ⟨0, 0, 2, m⟩ 12 (n + 1) = some (⟨0, 0, 2, m⟩, 0, 0) from by unfold actS rightB; simp [sideB, q0, q1, q2, q3, q4, q5]] at this
    exact this
  tab := fun w => table_2 w
  idx := fun _ => by kernel_rfl
  one := .inl ⟨by decide, rfl, rfl⟩
  fnum := rfl
  hear := fun w => by
    have q4 : ¬ 0 = n := fun e => q0 e.symm
    have q5 : ¬ 0 = m := fun e => q1 e.symm
    have := hear_any ⟨0, 0, 2, m⟩ 3 n w
    rw [show hearS ⟨0, 0, 2, m⟩ 3 n = some (⟨0, 0, 2, m⟩, 0) from by unfold hearS rightB; simp [sideB, q0, q1, q2, q3, q4, q5]] at this
    exact this
  tab2 := fun w => table_6 w
  idx2 := fun _ => by kernel_rfl
  two := .inl ⟨by decide, .inr ⟨rfl, rfl⟩⟩

theorem rnd_6_3 (n m : Int) (q0 : ¬ n = 0) (q1 : ¬ m = 0) (q2 : ¬ n + 1 = 0) (q3 : ¬ m + 1 = 0) :
    Rnd ⟨0, 0, 2, m⟩ n m 6 3 4 14 ⟨#[111, 117, 116, 32, 117, 110, 115, 117, 98, 115, 99, 114, 105, 98, 101, 100]⟩ ⟨#[105, 110, 32, 117, 110, 115, 117, 98, 115, 99, 114, 105, 98, 101, 100]⟩ ⟨0, 0, 0, 0⟩ 4 m (.agg #[.int .i64 (-1), .int .i64 (-1), .int .i64 0, .int .i64 1, .int .i64 (-1), .int .i64 4, .int .i64 0, .int .i64 1, .int .i64 4]) 0 ⟨0, 0, 2, m⟩ n 0 (.agg #[.int .i64 (-1), .int .i64 0, .int .i64 (-1), .int .i64 2, .int .i64 0, .int .i64 2, .int .i64 (-1), .int .i64 6, .int .i64 6]) (-1) where
  fK := rfl
  fev := rfl
  mkv := rfl
  fmk := rfl
  fev2 := rfl
  act := fun w => by
    have q4 : ¬ 0 = n := fun e => q0 e.symm
    have q5 : ¬ 0 = m := fun e => q1 e.symm
    have := act_any ⟨0, 0, 2, m⟩ 14 (n + 1) w
    rw [show actS ⟨0, 0, 2, m⟩ 14 (n + 1) = some (⟨0, 0, 0, 0⟩, 4, m) from by unfold actS rightB; simp [sideB, q0, q1, q2, q3, q4, q5]] at this
    exact this
  tab := fun w => table_3 w
  idx := fun _ => by kernel_rfl
  one := .inr ⟨by decide, by decide, by decide, ⟨#[78, 111, 110, 101]⟩, rfl, fun w => state_00 0 0 (by simp [sideB, q0, q1, q2, q3]) w⟩
  fnum := rfl
  hear := fun w => by
    have q4 : ¬ 0 = n := fun e => q0 e.symm
    have q5 : ¬ 0 = m := fun e => q1 e.symm
    have := hear_any ⟨0, 0, 2, m⟩ 4 n w
    rw [show hearS ⟨0, 0, 2, m⟩ 4 n = some (⟨0, 0, 2, m⟩, 0) from by unfold hearS rightB; simp [sideB, q0, q1, q2, q3, q4, q5]] at this
    exact this
  tab2 := fun w => table_7 w
  idx2 := fun _ => by kernel_rfl
  two := .inl ⟨by decide, .inr ⟨rfl, rfl⟩⟩

theorem rnd_7_0 (n m : Int) (q0 : ¬ n = 0) (q1 : ¬ m = 0) (q2 : ¬ n + 1 = 0) (q3 : ¬ m + 1 = 0) :
    Rnd ⟨1, n, 2, m⟩ n m 7 0 1 11 ⟨#[111, 117, 116, 32, 115, 117, 98, 115, 99, 114, 105, 98, 101]⟩ ⟨#[105, 110, 32, 115, 117, 98, 115, 99, 114, 105, 98, 101]⟩ ⟨1, n, 2, m⟩ 0 0 (.agg #[.int .i64 1, .int .i64 (-1), .int .i64 3, .int .i64 (-1), .int .i64 (-1), .int .i64 (-1), .int .i64 7, .int .i64 (-1), .int .i64 (-1)]) (-1) ⟨1, n, 1, (m + 1)⟩ (m + 1) 42 (.agg #[.int .i64 2, .int .i64 3, .int .i64 (-1), .int .i64 (-1), .int .i64 5, .int .i64 (-1), .int .i64 (-1), .int .i64 (-1), .int .i64 (-1)]) (-1) where
  fK := rfl
  fev := rfl
  mkv := rfl
  fmk := rfl
  fev2 := rfl
  act := fun w => by
    have q4 : ¬ 0 = n := fun e => q0 e.symm
    have q5 : ¬ 0 = m := fun e => q1 e.symm
    have := act_any ⟨1, n, 2, m⟩ 11 (n + 1) w
    rw [show actS ⟨1, n, 2, m⟩ 11 (n + 1) = some (⟨1, n, 2, m⟩, 0, 0) from by unfold actS rightB; simp [sideB, q0, q1, q2, q3, q4, q5]] at this
    exact this
  tab := fun w => table_0 w
  idx := fun _ => by kernel_rfl
  one := .inl ⟨by decide, rfl, rfl⟩
  fnum := rfl
  hear := fun w => by
    have q4 : ¬ 0 = n := fun e => q0 e.symm
    have q5 : ¬ 0 = m := fun e => q1 e.symm
    have := hear_any ⟨1, n, 2, m⟩ 1 (m + 1) w
    rw [show hearS ⟨1, n, 2, m⟩ 1 (m + 1) = some (⟨1, n, 1, (m + 1)⟩, 42) from by unfold hearS rightB; simp [sideB, q0, q1, q2, q3, q4, q5]] at this
    exact this
  tab2 := fun w => table_4 w
  idx2 := fun _ => by kernel_rfl
  two := .inl ⟨by decide, .inl rfl⟩

theorem rnd_7_1 (n m : Int) (q0 : ¬ n = 0) (q1 : ¬ m = 0) (q2 : ¬ n + 1 = 0) (q3 : ¬ m + 1 = 0) :
    Rnd ⟨1, n, 2, m⟩ n m 7 1 2 13 ⟨#[111, 117, 116, 32, 117, 110, 115, 117, 98, 115, 99, 114, 105, 98, 101]⟩ ⟨#[105, 110, 32, 117, 110, 115, 117, 98, 115, 99, 114, 105, 98, 101]⟩ ⟨0, 0, 2, m⟩ 2 n (.agg #[.int .i64 (-1), .int .i64 0, .int .i64 (-1), .int .i64 2, .int .i64 0, .int .i64 2, .int .i64 (-1), .int .i64 6, .int .i64 6]) 6 ⟨1, n, 0, 0⟩ m 44 (.agg #[.int .i64 (-1), .int .i64 (-1), .int .i64 0, .int .i64 1, .int .i64 (-1), .int .i64 4, .int .i64 0, .int .i64 1, .int .i64 4]) 1 where
  fK := rfl
  fev := rfl
  mkv := rfl
  fmk := rfl
  fev2 := rfl
  act := fun w => by
    have q4 : ¬ 0 = n := fun e => q0 e.symm
    have q5 : ¬ 0 = m := fun e => q1 e.symm
    have := act_any ⟨1, n, 2, m⟩ 13 (n + 1) w
    rw [show actS ⟨1, n, 2, m⟩ 13 (n + 1) = some (⟨0, 0, 2, m⟩, 2, n) from by unfold actS rightB; simp [sideB, q0, q1, q2, q3, q4, q5]] at this
    exact this
  tab := fun w => table_1 w
  idx := fun _ => by kernel_rfl
  one := .inr ⟨by decide, by decide, by decide, ⟨#[70, 114, 111, 109]⟩, rfl, fun w => state_02 0 m (by simp [sideB, q0, q1, q2, q3]) w⟩
  fnum := rfl
  hear := fun w => by
    have q4 : ¬ 0 = n := fun e => q0 e.symm
    have q5 : ¬ 0 = m := fun e => q1 e.symm
    have := hear_any ⟨1, n, 2, m⟩ 2 m w
    rw [show hearS ⟨1, n, 2, m⟩ 2 m = some (⟨1, n, 0, 0⟩, 44) from by unfold hearS rightB; simp [sideB, q0, q1, q2, q3, q4, q5]] at this
    exact this
  tab2 := fun w => table_5 w
  idx2 := fun _ => by kernel_rfl
  two := .inr ⟨by decide, by decide, by decide, ⟨#[78, 111, 110, 101, 32, 43, 32, 80, 101, 110, 100, 105, 110, 103, 32, 79, 117, 116]⟩, rfl, fun w => state_10 n 0 (by simp [sideB, q0, q1, q2, q3]) w⟩

theorem rnd_7_2 (n m : Int) (q0 : ¬ n = 0) (q1 : ¬ m = 0) (q2 : ¬ n + 1 = 0) (q3 : ¬ m + 1 = 0) :
    Rnd ⟨1, n, 2, m⟩ n m 7 2 3 12 ⟨#[111, 117, 116, 32, 115, 117, 98, 115, 99, 114, 105, 98, 101, 100]⟩ ⟨#[105, 110, 32, 115, 117, 98, 115, 99, 114, 105, 98, 101, 100]⟩ ⟨1, n, 2, m⟩ 0 0 (.agg #[.int .i64 (-1), .int .i64 (-1), .int .i64 6, .int .i64 7, .int .i64 (-1), .int .i64 8, .int .i64 (-1), .int .i64 (-1), .int .i64 (-1)]) (-1) ⟨2, n, 2, m⟩ n 43 (.agg #[.int .i64 (-1), .int .i64 4, .int .i64 (-1), .int .i64 5, .int .i64 (-1), .int .i64 (-1), .int .i64 (-1), .int .i64 8, .int .i64 (-1)]) 8 where
  fK := rfl
  fev := rfl
  mkv := rfl
  fmk := rfl
  fev2 := rfl
  act := fun w => by
    have q4 : ¬ 0 = n := fun e => q0 e.symm
    have q5 : ¬ 0 = m := fun e => q1 e.symm
    have := act_any ⟨1, n, 2, m⟩ 12 (n + 1) w
    rw [show actS ⟨1, n, 2, m⟩ 12 (n + 1) = some (⟨1, n, 2, m⟩, 0, 0) from by unfold actS rightB; simp [sideB, q0, q1, q2, q3, q4, q5]] at this
    exact this
  tab := fun w => table_2 w
  idx := fun _ => by kernel_rfl
  one := .inl ⟨by decide, rfl, rfl⟩
  fnum := rfl
  hear := fun w => by
    have q4 : ¬ 0 = n := fun e => q0 e.symm
    have q5 : ¬ 0 = m := fun e => q1 e.symm
    have := hear_any ⟨1, n, 2, m⟩ 3 n w
    rw [show hearS ⟨1, n, 2, m⟩ 3 n = some (⟨2, n, 2, m⟩, 43) from by unfold hearS rightB; simp [sideB, q0, q1, q2, q3, q4, q5]] at this
    exact this
  tab2 := fun w => table_6 w
  idx2 := fun _ => by kernel_rfl
  two := .inr ⟨by decide, by decide, by decide, ⟨#[66, 111, 116, 104]⟩, rfl, fun w => state_22 n m (by simp [sideB, q0, q1, q2, q3]) w⟩

theorem rnd_7_3 (n m : Int) (q0 : ¬ n = 0) (q1 : ¬ m = 0) (q2 : ¬ n + 1 = 0) (q3 : ¬ m + 1 = 0) :
    Rnd ⟨1, n, 2, m⟩ n m 7 3 4 14 ⟨#[111, 117, 116, 32, 117, 110, 115, 117, 98, 115, 99, 114, 105, 98, 101, 100]⟩ ⟨#[105, 110, 32, 117, 110, 115, 117, 98, 115, 99, 114, 105, 98, 101, 100]⟩ ⟨1, n, 0, 0⟩ 4 m (.agg #[.int .i64 (-1), .int .i64 (-1), .int .i64 0, .int .i64 1, .int .i64 (-1), .int .i64 4, .int .i64 0, .int .i64 1, .int .i64 4]) 1 ⟨0, 0, 2, m⟩ n 45 (.agg #[.int .i64 (-1), .int .i64 0, .int .i64 (-1), .int .i64 2, .int .i64 0, .int .i64 2, .int .i64 (-1), .int .i64 6, .int .i64 6]) 6 where
  fK := rfl
  fev := rfl
  mkv := rfl
  fmk := rfl
  fev2 := rfl
  act := fun w => by
    have q4 : ¬ 0 = n := fun e => q0 e.symm
    have q5 : ¬ 0 = m := fun e => q1 e.symm
    have := act_any ⟨1, n, 2, m⟩ 14 (n + 1) w
    rw [show actS ⟨1, n, 2, m⟩ 14 (n + 1) = some (⟨1, n, 0, 0⟩, 4, m) from by unfold actS rightB; simp [sideB, q0, q1, q2, q3, q4, q5]] at this
    exact this
  tab := fun w => table_3 w
  idx := fun _ => by kernel_rfl
  one := .inr ⟨by decide, by decide, by decide, ⟨#[78, 111, 110, 101, 32, 43, 32, 80, 101, 110, 100, 105, 110, 103, 32, 79, 117, 116]⟩, rfl, fun w => state_10 n 0 (by simp [sideB, q0, q1, q2, q3]) w⟩
  fnum := rfl
  hear := fun w => by
    have q4 : ¬ 0 = n := fun e => q0 e.symm
    have q5 : ¬ 0 = m := fun e => q1 e.symm
    have := hear_any ⟨1, n, 2, m⟩ 4 n w
    rw [show hearS ⟨1, n, 2, m⟩ 4 n = some (⟨0, 0, 2, m⟩, 45) from by unfold hearS rightB; simp [sideB, q0, q1, q2, q3, q4, q5]] at this
    exact this
  tab2 := fun w => table_7 w
  idx2 := fun _ => by kernel_rfl
  two := .inr ⟨by decide, by decide, by decide, ⟨#[70, 114, 111, 109]⟩, rfl, fun w => state_02 0 m (by simp [sideB, q0, q1, q2, q3]) w⟩

theorem rnd_8_0 (n m : Int) (q0 : ¬ n = 0) (q1 : ¬ m = 0) (q2 : ¬ n + 1 = 0) (q3 : ¬ m + 1 = 0) :
    Rnd ⟨2, n, 2, m⟩ n m 8 0 1 11 ⟨#[111, 117, 116, 32, 115, 117, 98, 115, 99, 114, 105, 98, 101]⟩ ⟨#[105, 110, 32, 115, 117, 98, 115, 99, 114, 105, 98, 101]⟩ ⟨2, n, 2, m⟩ 0 0 (.agg #[.int .i64 1, .int .i64 (-1), .int .i64 3, .int .i64 (-1), .int .i64 (-1), .int .i64 (-1), .int .i64 7, .int .i64 (-1), .int .i64 (-1)]) (-1) ⟨2, n, 1, (m + 1)⟩ (m + 1) 42 (.agg #[.int .i64 2, .int .i64 3, .int .i64 (-1), .int .i64 (-1), .int .i64 5, .int .i64 (-1), .int .i64 (-1), .int .i64 (-1), .int .i64 (-1)]) (-1) where
  fK := rfl
  fev := rfl
  mkv := rfl
  fmk := rfl
  fev2 := rfl
  act := fun w => by
    have q4 : ¬ 0 = n := fun e => q0 e.symm
    have q5 : ¬ 0 = m := fun e => q1 e.symm
    have := act_any ⟨2, n, 2, m⟩ 11 (n + 1) w
    rw [show actS ⟨2, n, 2, m⟩ 11 (n + 1) = some (⟨2, n, 2, m⟩, 0, 0) from by unfold actS rightB; simp [sideB, q0, q1, q2, q3, q4, q5]] at this
    exact this
  tab := fun w => table_0 w
  idx := fun _ => by kernel_rfl
  one := .inl ⟨by decide, rfl, rfl⟩
  fnum := rfl
  hear := fun w => by
    have q4 : ¬ 0 = n := fun e => q0 e.symm
    have q5 : ¬ 0 = m := fun e => q1 e.symm
    have := hear_any ⟨2, n, 2, m⟩ 1 (m + 1) w
    rw [show hearS ⟨2, n, 2, m⟩ 1 (m + 1) = some (⟨2, n, 1, (m + 1)⟩, 42) from by unfold hearS rightB; simp [sideB, q0, q1, q2, q3, q4, q5]] at this
    exact this
  tab2 := fun w => table_4 w
  idx2 := fun _ => by kernel_rfl
  two := .inl ⟨by decide, .inl rfl⟩

theorem rnd_8_1 (n m : Int) (q0 : ¬ n = 0) (q1 : ¬ m = 0) (q2 : ¬ n + 1 = 0) (q3 : ¬ m + 1 = 0) :
    Rnd ⟨2, n, 2, m⟩ n m 8 1 2 13 ⟨#[111, 117, 116, 32, 117, 110, 115, 117, 98, 115, 99, 114, 105, 98, 101]⟩ ⟨#[105, 110, 32, 117, 110, 115, 117, 98, 115, 99, 114, 105, 98, 101]⟩ ⟨0, 0, 2, m⟩ 2 n (.agg #[.int .i64 (-1), .int .i64 0, .int .i64 (-1), .int .i64 2, .int .i64 0, .int .i64 2, .int .i64 (-1), .int .i64 6, .int .i64 6]) 6 ⟨2, n, 0, 0⟩ m 44 (.agg #[.int .i64 (-1), .int .i64 (-1), .int .i64 0, .int .i64 1, .int .i64 (-1), .int .i64 4, .int .i64 0, .int .i64 1, .int .i64 4]) 4 where
  fK := rfl
  fev := rfl
  mkv := rfl
  fmk := rfl
  fev2 := rfl
  act := fun w => by
    have q4 : ¬ 0 = n := fun e => q0 e.symm
    have q5 : ¬ 0 = m := fun e => q1 e.symm
    have := act_any ⟨2, n, 2, m⟩ 13 (n + 1) w
    rw [show actS ⟨2, n, 2, m⟩ 13 (n + 1) = some (⟨0, 0, 2, m⟩, 2, n) from by unfold actS rightB; simp [sideB, q0, q1, q2, q3, q4, q5]] at this
    exact this
  tab := fun w => table_1 w
  idx := fun _ => by kernel_rfl
  one := .inr ⟨by decide, by decide, by decide, ⟨#[70, 114, 111, 109]⟩, rfl, fun w => state_02 0 m (by simp [sideB, q0, q1, q2, q3]) w⟩
  fnum := rfl
  hear := fun w => by
    have q4 : ¬ 0 = n := fun e => q0 e.symm
    have q5 : ¬ 0 = m := fun e => q1 e.symm
    have := hear_any ⟨2, n, 2, m⟩ 2 m w
    rw [show hearS ⟨2, n, 2, m⟩ 2 m = some (⟨2, n, 0, 0⟩, 44) from by unfold hearS rightB; simp [sideB, q0, q1, q2, q3, q4, q5]] at this
    exact this
  tab2 := fun w => table_5 w
  idx2 := fun _ => by kernel_rfl
  two := .inr ⟨by decide, by decide, by decide, ⟨#[84, 111]⟩, rfl, fun w => state_20 n 0 (by simp [sideB, q0, q1, q2, q3]) w⟩

theorem rnd_8_2 (n m : Int) (q0 : ¬ n = 0) (q1 : ¬ m = 0) (q2 : ¬ n + 1 = 0) (q3 : ¬ m + 1 = 0) :
    Rnd ⟨2, n, 2, m⟩ n m 8 2 3 12 ⟨#[111, 117, 116, 32, 115, 117, 98, 115, 99, 114, 105, 98, 101, 100]⟩ ⟨#[105, 110, 32, 115, 117, 98, 115, 99, 114, 105, 98, 101, 100]⟩ ⟨2, n, 2, m⟩ 0 0 (.agg #[.int .i64 (-1), .int .i64 (-1), .int .i64 6, .int .i64 7, .int .i64 (-1), .int .i64 8, .int .i64 (-1), .int .i64 (-1), .int .i64 (-1)]) (-1) ⟨2, n, 2, m⟩ n 0 (.agg #[.int .i64 (-1), .int .i64 4, .int .i64 (-1), .int .i64 5, .int .i64 (-1), .int .i64 (-1), .int .i64 (-1), .int .i64 8, .int .i64 (-1)]) (-1) where
  fK := rfl
  fev := rfl
  mkv := rfl
  fmk := rfl
  fev2 := rfl
  act := fun w => by
    have q4 : ¬ 0 = n := fun e => q0 e.symm
    have q5 : ¬ 0 = m := fun e => q1 e.symm
    have := act_any ⟨2, n, 2, m⟩ 12 (n + 1) w
    rw [show actS ⟨2, n, 2, m⟩ 12 (n + 1) = some (⟨2, n, 2, m⟩, 0, 0) from by unfold actS rightB; simp [sideB, q0, q1, q2, q3, q4, q5]] at this
    exact this
  tab := fun w => table_2 w
  idx := fun _ => by kernel_rfl
  one := .inl ⟨by decide, rfl, rfl⟩
  fnum := rfl
  hear := fun w => by
    have q4 : ¬ 0 = n := fun e => q0 e.symm
    have q5 : ¬ 0 = m := fun e => q1 e.symm
    have := hear_any ⟨2, n, 2, m⟩ 3 n w
    rw [show hearS ⟨2, n, 2, m⟩ 3 n = some (⟨2, n, 2, m⟩, 0) from by unfold hearS rightB; simp [sideB, q0, q1, q2, q3, q4, q5]] at this
    exact this
  tab2 := fun w => table_6 w
  idx2 := fun _ => by kernel_rfl
  two := .inl ⟨by decide, .inr ⟨rfl, rfl⟩⟩

theorem rnd_8_3 (n m : Int) (q0 : ¬ n = 0) (q1 : ¬ m = 0) (q2 : ¬ n + 1 = 0) (q3 : ¬ m + 1 = 0) :
    Rnd ⟨2, n, 2, m⟩ n m 8 3 4 14 ⟨#[111, 117, 116, 32, 117, 110, 115, 117, 98, 115, 99, 114, 105, 98, 101, 100]⟩ ⟨#[105, 110, 32, 117, 110, 115, 117, 98, 115, 99, 114, 105, 98, 101, 100]⟩ ⟨2, n, 0, 0⟩ 4 m (.agg #[.int .i64 (-1), .int .i64 (-1), .int .i64 0, .int .i64 1, .int .i64 (-1), .int .i64 4, .int .i64 0, .int .i64 1, .int .i64 4]) 4 ⟨0, 0, 2, m⟩ n 45 (.agg #[.int .i64 (-1), .int .i64 0, .int .i64 (-1), .int .i64 2, .int .i64 0, .int .i64 2, .int .i64 (-1), .int .i64 6, .int .i64 6]) 6 where
  fK := rfl
  fev := rfl
  mkv := rfl
  fmk := rfl
  fev2 := rfl
  act := fun w => by
    have q4 : ¬ 0 = n := fun e => q0 e.symm
    have q5 : ¬ 0 = m := fun e => q1 e.symm
    have := act_any ⟨2, n, 2, m⟩ 14 (n + 1) w
    rw [show actS ⟨2, n, 2, m⟩ 14 (n + 1) = some (⟨2, n, 0, 0⟩, 4, m) from by unfold actS rightB; simp [sideB, q0, q1, q2, q3, q4, q5]] at this
    exact this
  tab := fun w => table_3 w
  idx := fun _ => by kernel_rfl
  one := .inr ⟨by decide, by decide, by decide, ⟨#[84, 111]⟩, rfl, fun w => state_20 n 0 (by simp [sideB, q0, q1, q2, q3]) w⟩
  fnum := rfl
  hear := fun w => by
    have q4 : ¬ 0 = n := fun e => q0 e.symm
    have q5 : ¬ 0 = m := fun e => q1 e.symm
    have := hear_any ⟨2, n, 2, m⟩ 4 n w
    rw [show hearS ⟨2, n, 2, m⟩ 4 n = some (⟨0, 0, 2, m⟩, 45) from by unfold hearS rightB; simp [sideB, q0, q1, q2, q3, q4, q5]] at this
    exact this
  tab2 := fun w => table_7 w
  idx2 := fun _ => by kernel_rfl
  two := .inr ⟨by decide, by decide, by decide, ⟨#[70, 114, 111, 109]⟩, rfl, fun w => state_02 0 m (by simp [sideB, q0, q1, q2, q3]) w⟩

theorem tables_all (st n0 m0 n m : Int) (hnorm : Norm n0 m0 n m) (q0 : ¬ n = 0) (q1 : ¬ m = 0)
    (h4 : IntKind.u64.wrap (n + 1) = n + 1) (h5 : IntKind.u64.wrap (m + 1) = m + 1) (h6 : ¬ n + 1 = 0) (h7 : ¬ m + 1 = 0) (hs0 : 0 ≤ (wrap64 (st.tmod 9 + 9)).tmod 9) (hs9 : (wrap64 (st.tmod 9 + 9)).tmod 9 < 9) (w : World) :
    Calls Try.prog 5 #[.int .i64 st, .int .u64 n0, .int .u64 m0] w fun e w' => e = .returned (.bool true) ∧ Below w.heap.size w w' := by
  obtain ⟨s, hs⟩ : ∃ s, (wrap64 (st.tmod 9 + 9)).tmod 9 = s := ⟨_, rfl⟩
  rw [hs] at hs0 hs9
  have h9 : s = 0 ∨ s = 1 ∨ s = 2 ∨ s = 3 ∨ s = 4 ∨ s = 5 ∨ s = 6 ∨ s = 7 ∨ s = 8 := by omega
  rcases h9 with rfl | rfl | rfl | rfl | rfl | rfl | rfl | rfl | rfl
  · refine tables_any st n0 m0 n m 0 ⟨0, 0, 0, 0⟩ ⟨#[78, 111, 110, 101]⟩ hs (by decide) (by decide) hnorm h4 h5 (fun w => half_0 n m w) rfl (fun w => state_00 0 0 (by simp [sideB, q0, q1]) w) ?_ w
    · intro k hk
      have hk4 : k = 0 ∨ k = 1 ∨ k = 2 ∨ k = 3 := by omega
      rcases hk4 with rfl | rfl | rfl | rfl
      · exact ⟨_, _, _, _, _, _, _, _, _, _, _, _, _, _, rnd_0_0 n m q0 q1 h6 h7⟩
      · exact ⟨_, _, _, _, _, _, _, _, _, _, _, _, _, _, rnd_0_1 n m q0 q1 h6 h7⟩
      · exact ⟨_, _, _, _, _, _, _, _, _, _, _, _, _, _, rnd_0_2 n m q0 q1 h6 h7⟩
      · exact ⟨_, _, _, _, _, _, _, _, _, _, _, _, _, _, rnd_0_3 n m q0 q1 h6 h7⟩
  · refine tables_any st n0 m0 n m 1 ⟨1, n, 0, 0⟩ ⟨#[78, 111, 110, 101, 32, 43, 32, 80, 101, 110, 100, 105, 110, 103, 32, 79, 117, 116]⟩ hs (by decide) (by decide) hnorm h4 h5 (fun w => half_1 n m w) rfl (fun w => state_10 n 0 (by simp [sideB, q0, q1]) w) ?_ w
    · intro k hk
      have hk4 : k = 0 ∨ k = 1 ∨ k = 2 ∨ k = 3 := by omega
      rcases hk4 with rfl | rfl | rfl | rfl
      · exact ⟨_, _, _, _, _, _, _, _, _, _, _, _, _, _, rnd_1_0 n m q0 q1 h6 h7⟩
      · exact ⟨_, _, _, _, _, _, _, _, _, _, _, _, _, _, rnd_1_1 n m q0 q1 h6 h7⟩
      · exact ⟨_, _, _, _, _, _, _, _, _, _, _, _, _, _, rnd_1_2 n m q0 q1 h6 h7⟩
      · exact ⟨_, _, _, _, _, _, _, _, _, _, _, _, _, _, rnd_1_3 n m q0 q1 h6 h7⟩
  · refine tables_any st n0 m0 n m 2 ⟨0, 0, 1, m⟩ ⟨#[78, 111, 110, 101, 32, 43, 32, 80, 101, 110, 100, 105, 110, 103, 32, 73, 110]⟩ hs (by decide) (by decide) hnorm h4 h5 (fun w => half_2 n m w) rfl (fun w => state_01 0 m (by simp [sideB, q0, q1]) w) ?_ w
    · intro k hk
      have hk4 : k = 0 ∨ k = 1 ∨ k = 2 ∨ k = 3 := by omega
      rcases hk4 with rfl | rfl | rfl | rfl
      · exact ⟨_, _, _, _, _, _, _, _, _, _, _, _, _, _, rnd_2_0 n m q0 q1 h6 h7⟩
      · exact ⟨_, _, _, _, _, _, _, _, _, _, _, _, _, _, rnd_2_1 n m q0 q1 h6 h7⟩
      · exact ⟨_, _, _, _, _, _, _, _, _, _, _, _, _, _, rnd_2_2 n m q0 q1 h6 h7⟩
      · exact ⟨_, _, _, _, _, _, _, _, _, _, _, _, _, _, rnd_2_3 n m q0 q1 h6 h7⟩
  · refine tables_any st n0 m0 n m 3 ⟨1, n, 1, m⟩ ⟨#[78, 111, 110, 101, 32, 43, 32, 80, 101, 110, 100, 105, 110, 103, 32, 79, 117, 116, 43, 73, 110]⟩ hs (by decide) (by decide) hnorm h4 h5 (fun w => half_3 n m w) rfl (fun w => state_11 n m (by simp [sideB, q0, q1]) w) ?_ w
    · intro k hk
      have hk4 : k = 0 ∨ k = 1 ∨ k = 2 ∨ k = 3 := by omega
      rcases hk4 with rfl | rfl | rfl | rfl
      · exact ⟨_, _, _, _, _, _, _, _, _, _, _, _, _, _, rnd_3_0 n m q0 q1 h6 h7⟩
      · exact ⟨_, _, _, _, _, _, _, _, _, _, _, _, _, _, rnd_3_1 n m q0 q1 h6 h7⟩
      · exact ⟨_, _, _, _, _, _, _, _, _, _, _, _, _, _, rnd_3_2 n m q0 q1 h6 h7⟩
      · exact ⟨_, _, _, _, _, _, _, _, _, _, _, _, _, _, rnd_3_3 n m q0 q1 h6 h7⟩
  · refine tables_any st n0 m0 n m 4 ⟨2, n, 0, 0⟩ ⟨#[84, 111]⟩ hs (by decide) (by decide) hnorm h4 h5 (fun w => half_4 n m w) rfl (fun w => state_20 n 0 (by simp [sideB, q0, q1]) w) ?_ w
    · intro k hk
      have hk4 : k = 0 ∨ k = 1 ∨ k = 2 ∨ k = 3 := by omega
      rcases hk4 with rfl | rfl | rfl | rfl
      · exact ⟨_, _, _, _, _, _, _, _, _, _, _, _, _, _, rnd_4_0 n m q0 q1 h6 h7⟩
      · exact ⟨_, _, _, _, _, _, _, _, _, _, _, _, _, _, rnd_4_1 n m q0 q1 h6 h7⟩
      · exact ⟨_, _, _, _, _, _, _, _, _, _, _, _, _, _, rnd_4_2 n m q0 q1 h6 h7⟩
      · exact ⟨_, _, _, _, _, _, _, _, _, _, _, _, _, _, rnd_4_3 n m q0 q1 h6 h7⟩
  · refine tables_any st n0 m0 n m 5 ⟨2, n, 1, m⟩ ⟨#[84, 111, 32, 43, 32, 80, 101, 110, 100, 105, 110, 103, 32, 73, 110]⟩ hs (by decide) (by decide) hnorm h4 h5 (fun w => half_5 n m w) rfl (fun w => state_21 n m (by simp [sideB, q0, q1]) w) ?_ w
    · intro k hk
      have hk4 : k = 0 ∨ k = 1 ∨ k = 2 ∨ k = 3 := by omega
      rcases hk4 with rfl | rfl | rfl | rfl
      · exact ⟨_, _, _, _, _, _, _, _, _, _, _, _, _, _, rnd_5_0 n m q0 q1 h6 h7⟩
      · exact ⟨_, _, _, _, _, _, _, _, _, _, _, _, _, _, rnd_5_1 n m q0 q1 h6 h7⟩
      · exact ⟨_, _, _, _, _, _, _, _, _, _, _, _, _, _, rnd_5_2 n m q0 q1 h6 h7⟩
      · exact ⟨_, _, _, _, _, _, _, _, _, _, _, _, _, _, rnd_5_3 n m q0 q1 h6 h7⟩
  · refine tables_any st n0 m0 n m 6 ⟨0, 0, 2, m⟩ ⟨#[70, 114, 111, 109]⟩ hs (by decide) (by decide) hnorm h4 h5 (fun w => half_6 n m w) rfl (fun w => state_02 0 m (by simp [sideB, q0, q1]) w) ?_ w
    · intro k hk
      have hk4 : k = 0 ∨ k = 1 ∨ k = 2 ∨ k = 3 := by omega
      rcases hk4 with rfl | rfl | rfl | rfl
      · exact ⟨_, _, _, _, _, _, _, _, _, _, _, _, _, _, rnd_6_0 n m q0 q1 h6 h7⟩
      · exact ⟨_, _, _, _, _, _, _, _, _, _, _, _, _, _, rnd_6_1 n m q0 q1 h6 h7⟩
      · exact ⟨_, _, _, _, _, _, _, _, _, _, _, _, _, _, rnd_6_2 n m q0 q1 h6 h7⟩
      · exact ⟨_, _, _, _, _, _, _, _, _, _, _, _, _, _, rnd_6_3 n m q0 q1 h6 h7⟩
  · refine tables_any st n0 m0 n m 7 ⟨1, n, 2, m⟩ ⟨#[70, 114, 111, 109, 32, 43, 32, 80, 101, 110, 100, 105, 110, 103, 32, 79, 117, 116]⟩ hs (by decide) (by decide) hnorm h4 h5 (fun w => half_7 n m w) rfl (fun w => state_12 n m (by simp [sideB, q0, q1]) w) ?_ w
    · intro k hk
      have hk4 : k = 0 ∨ k = 1 ∨ k = 2 ∨ k = 3 := by omega
      rcases hk4 with rfl | rfl | rfl | rfl
      · exact ⟨_, _, _, _, _, _, _, _, _, _, _, _, _, _, rnd_7_0 n m q0 q1 h6 h7⟩
      · exact ⟨_, _, _, _, _, _, _, _, _, _, _, _, _, _, rnd_7_1 n m q0 q1 h6 h7⟩
      · exact ⟨_, _, _, _, _, _, _, _, _, _, _, _, _, _, rnd_7_2 n m q0 q1 h6 h7⟩
      · exact ⟨_, _, _, _, _, _, _, _, _, _, _, _, _, _, rnd_7_3 n m q0 q1 h6 h7⟩
  · refine tables_any st n0 m0 n m 8 ⟨2, n, 2, m⟩ ⟨#[66, 111, 116, 104]⟩ hs (by decide) (by decide) hnorm h4 h5 (fun w => half_8 n m w) rfl (fun w => state_22 n m (by simp [sideB, q0, q1]) w) ?_ w
    · intro k hk
      have hk4 : k = 0 ∨ k = 1 ∨ k = 2 ∨ k = 3 := by omega
      rcases hk4 with rfl | rfl | rfl | rfl
      · exact ⟨_, _, _, _, _, _, _, _, _, _, _, _, _, _, rnd_8_0 n m q0 q1 h6 h7⟩
      · exact ⟨_, _, _, _, _, _, _, _, _, _, _, _, _, _, rnd_8_1 n m q0 q1 h6 h7⟩
      · exact ⟨_, _, _, _, _, _, _, _, _, _, _, _, _, _, rnd_8_2 n m q0 q1 h6 h7⟩
      · exact ⟨_, _, _, _, _, _, _, _, _, _, _, _, _, _, rnd_8_3 n m q0 q1 h6 h7⟩

theorem tables_law (st n0 m0 : Int) (hst : -9223372036854775808 ≤ st ∧ st ≤ 9223372036854775807) (hn : 0 ≤ n0 ∧ n0 ≤ 18446744073709551615) (hm : 0 ≤ m0 ∧ m0 ≤ 18446744073709551615) (w : World) :
    Calls Try.prog 5 #[.int .i64 st, .int .u64 n0, .int .u64 m0] w fun e w' => e = .returned (.bool true) ∧ Below w.heap.size w w' := by
  have hr : -9 < st.tmod 9 ∧ st.tmod 9 < 9 := by
    rw [Int.tmod_eq_emod]
    split <;> simp <;> omega
  have hw : wrap64 (st.tmod 9 + 9) = st.tmod 9 + 9 := IntWalk.wrap64_in _ (by omega)
  have hs0 : 0 ≤ (wrap64 (st.tmod 9 + 9)).tmod 9 := by rw [hw]; exact Int.tmod_nonneg _ (by omega)
  have hs9 : (wrap64 (st.tmod 9 + 9)).tmod 9 < 9 := Int.tmod_lt_of_pos _ (by decide)
  have wrap : ∀ x : Int, 0 ≤ x → x ≤ 18446744073709551614 → IntKind.u64.wrap (x + 1) = x + 1 := by
    intro x h0 h1
    simp [IntKind.wrap, IntKind.bits, IntKind.signed]
    omega
  by_cases hg : n0 ≠ 0 ∧ m0 ≠ 0 ∧ n0 ≠ 18446744073709551615 ∧ m0 ≠ 18446744073709551615
  · obtain ⟨a, b, c, d⟩ := hg
    exact tables_all st n0 m0 n0 m0 (.inl ⟨by simpa using a, by simpa using b, by simpa using c, by simpa using d, rfl, rfl⟩) a b (wrap _ (by omega) (by omega)) (wrap _ (by omega) (by omega)) (by omega) (by omega) hs0 hs9 w
  · refine tables_all st n0 m0 3 4 (.inr ⟨?_, rfl, rfl⟩) (by decide) (by decide) (wrap _ (by omega) (by omega)) (wrap _ (by omega) (by omega)) (by omega) (by omega) hs0 hs9 w
    by_cases a : n0 = 0
    · exact .inl (by simpa using a)
    · by_cases b : m0 = 0
      · exact .inr (.inl ⟨by simpa using a, by simpa using b⟩)
      · by_cases c : n0 = 18446744073709551615
        · exact .inr (.inr (.inl ⟨by simpa using a, by simpa using b, by simpa using c⟩))
        · have d : m0 = 18446744073709551615 := by
            by_cases d : m0 = 18446744073709551615
            · exact d
            · exact absurd ⟨a, b, c, d⟩ hg
          exact .inr (.inr (.inr ⟨by simpa using a, by simpa using b, by simpa using c, by simpa using d⟩))


end Go.Proofs.Ytgaimcdkbknljaa
