/- The reference's reader and writer of rules: they answer what the program's answer. -/
import Derived.Test.YthbjcihdlhkboaaGreatDoorRf5
namespace Go.Proofs.YthbjcihdlhkboaaGreatDoor
set_option linter.unusedSimpArgs false
set_option linter.unusedVariables false
open Go.RowKit Go.Maps Go.Shelf Go.Lib

theorem refparse_full (s : ByteArray) (w : World) (hs : s.size ≤ 9223372036854775807) :
    Calls Tryz.prog 86 #[.string s] w fun e w' => e = .returned (parseV (parseF s)) ∧ Below w.heap.size w w' := by
  have h1 := cutB_rest s
  have h2 := cutB_rest (cutB s).2.1
  have h3 := cutB_rest (cutB (cutB s).2.1).2.1
  exact refparse_gen s _ _ _ _ _ _ _ _ _ (validB (cutB (cutB (cutB s).2.1).2.1).2.1) (localS (cutB (cutB (cutB s).2.1).2.1).2.1).1 (localS (cutB (cutB (cutB s).2.1).2.1).2.1).2 w
    (fun W => refpiece_any s hs W) (fun W => refpiece_any _ (by omega) W) (fun W => refpiece_any _ (by omega) W) (fun W => reflocal_any _ W)
    (fun W => refword_any _ _ W (fun h64 W' => refvalid_any _ (by omega) W')) (fun W => refisSub_any _ W) _ rfl

def rwayB (inn out : Bool) : ByteArray := if inn && out then ⟨#[98, 111, 116, 104, 32]⟩ else if inn then ⟨#[105, 110, 32]⟩ else if out then ⟨#[111, 117, 116, 32]⟩ else ⟨#[]⟩
/-- A rule, written by the reference. -/
def refWriteS (r : Rule) : ByteArray :=
  if r.by_.toList == [97, 108, 108] then (whatB r.allow ++ rwayB r.inn r.out) ++ r.by_
  else (((whatB r.allow ++ rwayB r.inn r.out) ++ r.by_) ++ ⟨#[32]⟩) ++ r.value

theorem empty_right (b : ByteArray) : b ++ (⟨#[]⟩ : ByteArray) = b := by
  have : (⟨#[]⟩ : ByteArray) = ByteArray.empty := rfl
  rw [this, ByteArray.append_empty]

set_option maxRecDepth 100000 in
set_option maxHeartbeats 4000000 in
theorem refwrite_any (r : Rule) (hb : r.by_.size ≤ 140737488355328) (hv : r.value.size ≤ 140737488355328) (w : World) :
    Calls Tryz.prog 87 #[r.val] w fun e w' => e = .returned (.string (refWriteS r)) ∧ Below w.heap.size w w' := by
  obtain ⟨ra, ri, ro, rb, rv⟩ := r
  simp only at hb hv
  unfold refWriteS
  simp only
  cases ha : (rb.toList == [97, 108, 108])
  · cases ra <;> cases ri <;> cases ro
    all_goals
      as_aux_lemma =>
      go_enter Tryz.func87, Tryz.ntmps87
      go_wp2_with fail
      go_ret
      exact ⟨by simp [whatB, rwayB, empty_right], (Below.refl _ _).alloc (Nat.le_refl _) _⟩
  · cases ra <;> cases ri <;> cases ro
    all_goals
      as_aux_lemma =>
      go_enter Tryz.func87, Tryz.ntmps87
      go_wp2_with fail
      go_ret
      exact ⟨by simp [whatB, rwayB, empty_right], (Below.refl _ _).alloc (Nat.le_refl _) _⟩

end Go.Proofs.YthbjcihdlhkboaaGreatDoor
