/- A rule as text: what the program writes. -/
import Derived.Test.YthbjcihdlhkboaaGreatDoorLs5
namespace Go.Proofs.YthbjcihdlhkboaaGreatDoor
set_option linter.unusedSimpArgs false
set_option linter.unusedVariables false
open Go.RowKit Go.Maps Go.Shelf Go.Lib

def whatB (allow : Bool) : ByteArray := if allow then ⟨#[97, 108, 108, 111, 119, 32]⟩ else ⟨#[100, 101, 110, 121, 32]⟩
def wayB (inn out : Bool) : ByteArray := if inn && out then ⟨#[98, 111, 116, 104, 32]⟩ else if out then ⟨#[111, 117, 116, 32]⟩ else ⟨#[105, 110, 32]⟩
/-- A rule, written. -/
def writeS (r : Rule) : ByteArray :=
  if r.by_.toList == [97, 108, 108] then (whatB r.allow ++ wayB r.inn r.out) ++ ⟨#[97, 108, 108]⟩
  else (((whatB r.allow ++ wayB r.inn r.out) ++ r.by_) ++ ⟨#[32]⟩) ++ r.value

theorem size_append (a b : ByteArray) : (a ++ b).size = a.size + b.size := ByteArray.size_append

set_option maxRecDepth 100000 in
set_option maxHeartbeats 4000000 in
theorem write_any (r : Rule) (hb : r.by_.size ≤ 140737488355328) (hv : r.value.size ≤ 140737488355328) (w : World) :
    Calls Tryz.prog 109 #[r.val] w fun e w' => e = .returned (.string (writeS r)) ∧ Below w.heap.size w w' := by
  obtain ⟨ra, ri, ro, rb, rv⟩ := r
  simp only at hb hv
  unfold writeS
  simp only
  cases ha : (rb.toList == [97, 108, 108])
  · cases ra <;> cases ri <;> cases ro
    all_goals
      as_aux_lemma =>
      go_enter Tryz.func109, Tryz.ntmps109
      go_wp2_with fail
      go_ret
      exact ⟨by simp [whatB, wayB], (Below.refl _ _).alloc (Nat.le_refl _) _⟩
  · cases ra <;> cases ri <;> cases ro
    all_goals
      as_aux_lemma =>
      go_enter Tryz.func109, Tryz.ntmps109
      go_wp2_with fail
      go_ret
      exact ⟨by simp [whatB, wayB], (Below.refl _ _).alloc (Nat.le_refl _) _⟩

end Go.Proofs.YthbjcihdlhkboaaGreatDoor
