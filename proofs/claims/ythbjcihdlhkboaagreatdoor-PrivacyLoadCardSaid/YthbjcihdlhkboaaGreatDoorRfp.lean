/- A rule of the readers, written by the reference, is the program's text. -/
import Derived.Test.YthbjcihdlhkboaaGreatDoorRf6
namespace Go.Proofs.YthbjcihdlhkboaaGreatDoor
set_option linter.unusedSimpArgs false
set_option linter.unusedVariables false
open Go.RowKit Go.Maps Go.Shelf Go.Lib

theorem toList_eq {a b : ByteArray} (h : a.toList = b.toList) : a = b := by
  rw [Lib.toList_data, Lib.toList_data] at h
  have h2 : a.data = b.data := Array.toList_inj.1 h
  cases a; cases b; simp_all

theorem write_same (r : Rule) (h : (r.inn || r.out) = true) : refWriteS r = writeS r := by
  obtain ⟨ra, ri, ro, rb, rv⟩ := r
  simp only at h
  unfold refWriteS writeS
  simp only
  have hw : rwayB ri ro = wayB ri ro := by cases ri <;> cases ro <;> first | rfl | simp at h
  rw [hw]
  by_cases ha : (rb.toList == [97, 108, 108]) = true
  · rw [if_pos ha, if_pos ha]
    have : rb = ⟨#[97, 108, 108]⟩ := toList_eq (by rw [beq_iff_eq] at ha; rw [ha, Lib.toList_data])
    rw [this]
  · rw [if_neg ha, if_neg ha]

theorem parseF_way {s : ByteArray} {q : Rule} (h : parseF s = .ok q) : (q.inn || q.out) = true := by
  unfold parseF parseS at h
  split at h
  · split at h
    · rename_i h2
      revert h
      generalize valueS _ _ _ _ _ _ = v
      intro h
      cases v with
      | error c => simp [thenRule] at h
      | ok v =>
        simp only [thenRule, Except.ok.injEq] at h
        subst h
        simp only
        revert h2
        generalize (cutB (cutB s).2.1).1.toList = l
        intro _
        by_cases e : l = [105, 110]
        · subst e; rfl
        · have : (l == [105, 110]) = false := by simpa using e
          rw [this]; simp
    · cases h
  · cases h

end Go.Proofs.YthbjcihdlhkboaaGreatDoor
