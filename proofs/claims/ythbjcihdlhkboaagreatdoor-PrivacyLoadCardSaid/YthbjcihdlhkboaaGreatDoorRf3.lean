/- The reference's names of users: what they reckon is what the program's reckon. -/
import Derived.Test.YthbjcihdlhkboaaGreatDoorRf2
namespace Go.Proofs.YthbjcihdlhkboaaGreatDoor
set_option linter.unusedSimpArgs false
set_option linter.unusedVariables false
open Go.RowKit Go.Maps Go.Shelf Go.Lib

theorem fold_yes (r : Int) (h : (65 ≤ r ∧ r ≤ 90) ∨ (192 ≤ r ∧ r ≤ 222 ∧ ¬ r = 215) ∨ (913 ≤ r ∧ r ≤ 937 ∧ ¬ r = 930) ∨ (1040 ≤ r ∧ r ≤ 1071)) : fold r = r + 32 := by
  unfold fold
  rw [if_pos]
  unfold isFold within
  simp
  omega
theorem fold_no (r : Int) (h : ¬ ((65 ≤ r ∧ r ≤ 90) ∨ (192 ≤ r ∧ r ≤ 222 ∧ ¬ r = 215) ∨ (913 ≤ r ∧ r ≤ 937 ∧ ¬ r = 930) ∨ (1040 ≤ r ∧ r ≤ 1071))) : fold r = r := by
  unfold fold
  rw [if_neg]
  unfold isFold within
  simp
  omega
theorem letter_yes (r : Int) (h : (97 ≤ r ∧ r ≤ 122) ∨ (48 ≤ r ∧ r ≤ 57) ∨ r = 46 ∨ r = 45 ∨ r = 95 ∨ (223 ≤ r ∧ r ≤ 255 ∧ ¬ r = 247) ∨ (945 ≤ r ∧ r ≤ 969) ∨ (1072 ≤ r ∧ r ≤ 1103)) : localR r = true := by
  unfold localR digit within
  simp
  omega
theorem letter_no (r : Int) (h : ¬ ((97 ≤ r ∧ r ≤ 122) ∨ (48 ≤ r ∧ r ≤ 57) ∨ r = 46 ∨ r = 45 ∨ r = 95 ∨ (223 ≤ r ∧ r ≤ 255 ∧ ¬ r = 247) ∨ (945 ≤ r ∧ r ≤ 969) ∨ (1072 ≤ r ∧ r ≤ 1103))) : localR r = false := by
  unfold localR digit within
  simp
  omega

set_option maxRecDepth 100000 in
set_option maxHeartbeats 4000000 in
theorem reffold_any (r : Int) (h0 : 0 ≤ r) (h1 : r ≤ 1114111) (w : World) :
    Calls Tryz.prog 140 #[.int .i32 r] w fun e w' => e = .returned (.int .i32 (fold r)) ∧ Below w.heap.size w w' := by
  have hw : IntKind.i32.wrap (r + 32) = r + 32 := by
    unfold IntKind.wrap
    simp [IntKind.bits, IntKind.signed]
    omega
  go_enter Tryz.func140, Tryz.ntmps140
  go_wp2_with fail
  all_goals
    go_ret
    refine ⟨?_, Below.refl _ _⟩
    try subst_vars
    first
      | exact (congrArg (fun z => Ending.returned (.int .i32 z)) (fold_no _ (by first | assumption | omega))).symm
      | exact (congrArg (fun z => Ending.returned (.int .i32 z)) (fold_yes _ (by first | assumption | omega))).symm

set_option maxRecDepth 100000 in
set_option maxHeartbeats 4000000 in
theorem refletter_any (r : Int) (h0 : 0 ≤ r) (h1 : r ≤ 1114143) (w : World) :
    Calls Tryz.prog 139 #[.int .i32 r] w fun e w' => e = .returned (.bool (localR r)) ∧ Below w.heap.size w w' := by
  go_enter Tryz.func139, Tryz.ntmps139
  go_wp2_with fail
  all_goals
    go_ret
    refine ⟨?_, Below.refl _ _⟩
    try subst_vars
    first
      | exact (congrArg (fun z => Ending.returned (.bool z)) (letter_yes _ (by omega))).symm
      | exact (congrArg (fun z => Ending.returned (.bool z)) (letter_no _ (by omega))).symm
      | (refine congrArg (fun z => Ending.returned (.bool z)) ?_
         show _ = _
         first
           | (rw [letter_yes _ (by omega)]; simp; done)
           | (rw [letter_yes _ (by omega)]; simp; omega)
           | (rw [letter_no _ (by omega)]; simp; omega)
           | (rw [letter_no _ (by omega)]; simp; done)
           | (rw [Bool.eq_iff_iff]; unfold localR digit within; simp; omega))

end Go.Proofs.YthbjcihdlhkboaaGreatDoor
