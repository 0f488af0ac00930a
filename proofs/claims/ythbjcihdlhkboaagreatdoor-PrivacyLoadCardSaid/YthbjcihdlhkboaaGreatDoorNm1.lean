/- The small functions of the package of names: what each reckons. -/
import Derived.Test.YthbjcihdlhkboaaGreatDoorProg
import Derived.WalkKit
import Derived.WalkSpells
import Derived.WalkLawsBesides
import Derived.Deep.QuietTactic
import Derived.BigQuiet
import Derived.Below
import Derived.Lib.Hide
import Derived.KernelRfl


namespace Go.Proofs.YthbjcihdlhkboaaGreatDoor
set_option linter.unusedSimpArgs false
set_option linter.unusedVariables false
open Go.RowKit

def within (r a b : Int) : Bool := decide (a ≤ r) && decide (r ≤ b)
def digit (r : Int) : Bool := within r 97 122 || within r 48 57
def isFold (r : Int) : Bool := within r 65 90 || (within r 192 222 && !(r == 215)) || (within r 913 937 && !(r == 930)) || within r 1040 1071
def fold (r : Int) : Int := if isFold r then r + 32 else r
def localR (r : Int) : Bool := digit r || r == 46 || r == 45 || r == 95 || (within r 223 255 && !(r == 247)) || within r 945 969 || within r 1072 1103

set_option maxHeartbeats 1000000 in
theorem within_any (r a b : Int) (w : World) :
    Calls Tryz.prog 180 #[.int .i32 r, .int .i32 a, .int .i32 b] w fun e w' => e = .returned (.bool (within r a b)) ∧ Below w.heap.size w w' := by
  unfold within
  by_cases h1 : a ≤ r
  · have d1 : decide (a ≤ r) = true := by simpa using h1
    rw [d1]
    go_enter Tryz.func180, Tryz.ntmps180
    go_wp2
    go_ret
    exact ⟨by simp, Below.refl _ _⟩
  · have d1 : decide (a ≤ r) = false := by simpa using h1
    rw [d1]
    go_enter Tryz.func180, Tryz.ntmps180
    go_wp2
    go_ret
    exact ⟨by simp, Below.refl _ _⟩

set_option maxHeartbeats 1000000 in
theorem digit_any (r : Int) (w : World) :
    Calls Tryz.prog 183 #[.int .i32 r] w fun e w' => e = .returned (.bool (digit r)) ∧ Below w.heap.size w w' := by
  have c1 := fun w => within_any r 97 122 w
  have c2 := fun w => within_any r 48 57 w
  unfold digit
  generalize within r 97 122 = b1 at c1 ⊢
  generalize within r 48 57 = b2 at c2 ⊢
  have C1 := Lib.hid c1
  have C2 := Lib.hid c2
  clear c1 c2
  cases b1
  · go_enter Tryz.func183, Tryz.ntmps183
    go_wp2_with fail
    refine (C1.out _).mono ?_
    rintro e w1 ⟨rfl, hb1⟩
    go_wp2_with fail
    refine (C2.out _).mono ?_
    rintro e w2 ⟨rfl, hb2⟩
    go_wp2_with fail
    go_ret
    exact ⟨by simp, hb1.trans (hb2.mono hb1.size)⟩
  · go_enter Tryz.func183, Tryz.ntmps183
    go_wp2_with fail
    refine (C1.out _).mono ?_
    rintro e w1 ⟨rfl, hb1⟩
    go_wp2_with fail
    go_ret
    exact ⟨by simp, hb1⟩


theorem not_bne {r k : Int} {b : Bool} (h : (r == k) = b) : (r != k) = !b := by rw [← h]; rfl

set_option maxHeartbeats 4000000 in
theorem fold_any (r : Int) (h0 : 0 ≤ r) (h1 : r ≤ 1114111) (w : World) :
    Calls Tryz.prog 149 #[.int .i32 r] w fun e w' => e = .returned (.int .i32 (fold r)) ∧ Below w.heap.size w w' := by
  have hw : IntKind.i32.wrap (r + 32) = r + 32 := by
    unfold IntKind.wrap
    simp [IntKind.bits, IntKind.signed]
    omega
  have C1 := Lib.hid (fun w => within_any r 65 90 w)
  have C2 := Lib.hid (fun w => within_any r 192 222 w)
  have C3 := Lib.hid (fun w => within_any r 913 937 w)
  have C4 := Lib.hid (fun w => within_any r 1040 1071 w)
  clear h0 h1
  unfold fold isFold
  rcases hb1 : within r 65 90 <;> rw [hb1] at C1

  · skip
    rcases e2 : within r 192 222 <;> rw [e2] at C2
    · skip
      rcases e3 : within r 913 937 <;> rw [e3] at C3
      · skip
        rcases e4 : within r 1040 1071 <;> rw [e4] at C4
        · go_enter Tryz.func149, Tryz.ntmps149
          go_wp2_with fail
          refine (C1.out _).mono ?_
          rintro e w1 ⟨rfl, hb1⟩
          go_wp2_with fail
          refine (C2.out _).mono ?_
          rintro e w2 ⟨rfl, hb2⟩
          go_wp2_with fail
          refine (C3.out _).mono ?_
          rintro e w3 ⟨rfl, hb3⟩
          go_wp2_with fail
          refine (C4.out _).mono ?_
          rintro e w4 ⟨rfl, hb4⟩
          go_wp2_with fail
          go_ret
          exact ⟨by simp, (((hb1).trans (hb2.mono (hb1.size))).trans (hb3.mono (Nat.le_trans (hb1.size) hb2.size))).trans (hb4.mono (Nat.le_trans (Nat.le_trans (hb1.size) hb2.size) hb3.size))⟩
        · go_enter Tryz.func149, Tryz.ntmps149
          go_wp2_with fail
          refine (C1.out _).mono ?_
          rintro e w1 ⟨rfl, hb1⟩
          go_wp2_with fail
          refine (C2.out _).mono ?_
          rintro e w2 ⟨rfl, hb2⟩
          go_wp2_with fail
          refine (C3.out _).mono ?_
          rintro e w3 ⟨rfl, hb3⟩
          go_wp2_with fail
          refine (C4.out _).mono ?_
          rintro e w4 ⟨rfl, hb4⟩
          go_wp2_with fail
          go_ret
          exact ⟨by simp, (((hb1).trans (hb2.mono (hb1.size))).trans (hb3.mono (Nat.le_trans (hb1.size) hb2.size))).trans (hb4.mono (Nat.le_trans (Nat.le_trans (hb1.size) hb2.size) hb3.size))⟩
      · rcases q3 : (r == 930) <;> have m3 := not_bne q3
        · go_enter Tryz.func149, Tryz.ntmps149
          go_wp2_with fail
          refine (C1.out _).mono ?_
          rintro e w1 ⟨rfl, hb1⟩
          go_wp2_with fail
          refine (C2.out _).mono ?_
          rintro e w2 ⟨rfl, hb2⟩
          go_wp2_with fail
          refine (C3.out _).mono ?_
          rintro e w3 ⟨rfl, hb3⟩
          go_wp2_with fail
          go_ret
          exact ⟨by simp, ((hb1).trans (hb2.mono (hb1.size))).trans (hb3.mono (Nat.le_trans (hb1.size) hb2.size))⟩
        · skip
          rcases e4 : within r 1040 1071 <;> rw [e4] at C4
          · go_enter Tryz.func149, Tryz.ntmps149
            go_wp2_with fail
            refine (C1.out _).mono ?_
            rintro e w1 ⟨rfl, hb1⟩
            go_wp2_with fail
            refine (C2.out _).mono ?_
            rintro e w2 ⟨rfl, hb2⟩
            go_wp2_with fail
            refine (C3.out _).mono ?_
            rintro e w3 ⟨rfl, hb3⟩
            go_wp2_with fail
            refine (C4.out _).mono ?_
            rintro e w4 ⟨rfl, hb4⟩
            go_wp2_with fail
            go_ret
            exact ⟨by simp, (((hb1).trans (hb2.mono (hb1.size))).trans (hb3.mono (Nat.le_trans (hb1.size) hb2.size))).trans (hb4.mono (Nat.le_trans (Nat.le_trans (hb1.size) hb2.size) hb3.size))⟩
          · go_enter Tryz.func149, Tryz.ntmps149
            go_wp2_with fail
            refine (C1.out _).mono ?_
            rintro e w1 ⟨rfl, hb1⟩
            go_wp2_with fail
            refine (C2.out _).mono ?_
            rintro e w2 ⟨rfl, hb2⟩
            go_wp2_with fail
            refine (C3.out _).mono ?_
            rintro e w3 ⟨rfl, hb3⟩
            go_wp2_with fail
            refine (C4.out _).mono ?_
            rintro e w4 ⟨rfl, hb4⟩
            go_wp2_with fail
            go_ret
            exact ⟨by simp, (((hb1).trans (hb2.mono (hb1.size))).trans (hb3.mono (Nat.le_trans (hb1.size) hb2.size))).trans (hb4.mono (Nat.le_trans (Nat.le_trans (hb1.size) hb2.size) hb3.size))⟩
    · rcases q2 : (r == 215) <;> have m2 := not_bne q2
      · go_enter Tryz.func149, Tryz.ntmps149
        go_wp2_with fail
        refine (C1.out _).mono ?_
        rintro e w1 ⟨rfl, hb1⟩
        go_wp2_with fail
        refine (C2.out _).mono ?_
        rintro e w2 ⟨rfl, hb2⟩
        go_wp2_with fail
        go_ret
        exact ⟨by simp, (hb1).trans (hb2.mono (hb1.size))⟩
      · skip
        rcases e3 : within r 913 937 <;> rw [e3] at C3
        · skip
          rcases e4 : within r 1040 1071 <;> rw [e4] at C4
          · go_enter Tryz.func149, Tryz.ntmps149
            go_wp2_with fail
            refine (C1.out _).mono ?_
            rintro e w1 ⟨rfl, hb1⟩
            go_wp2_with fail
            refine (C2.out _).mono ?_
            rintro e w2 ⟨rfl, hb2⟩
            go_wp2_with fail
            refine (C3.out _).mono ?_
            rintro e w3 ⟨rfl, hb3⟩
            go_wp2_with fail
            refine (C4.out _).mono ?_
            rintro e w4 ⟨rfl, hb4⟩
            go_wp2_with fail
            go_ret
            exact ⟨by simp, (((hb1).trans (hb2.mono (hb1.size))).trans (hb3.mono (Nat.le_trans (hb1.size) hb2.size))).trans (hb4.mono (Nat.le_trans (Nat.le_trans (hb1.size) hb2.size) hb3.size))⟩
          · go_enter Tryz.func149, Tryz.ntmps149
            go_wp2_with fail
            refine (C1.out _).mono ?_
            rintro e w1 ⟨rfl, hb1⟩
            go_wp2_with fail
            refine (C2.out _).mono ?_
            rintro e w2 ⟨rfl, hb2⟩
            go_wp2_with fail
            refine (C3.out _).mono ?_
            rintro e w3 ⟨rfl, hb3⟩
            go_wp2_with fail
            refine (C4.out _).mono ?_
            rintro e w4 ⟨rfl, hb4⟩
            go_wp2_with fail
            go_ret
            exact ⟨by simp, (((hb1).trans (hb2.mono (hb1.size))).trans (hb3.mono (Nat.le_trans (hb1.size) hb2.size))).trans (hb4.mono (Nat.le_trans (Nat.le_trans (hb1.size) hb2.size) hb3.size))⟩
        · rcases q3 : (r == 930) <;> have m3 := not_bne q3
          · go_enter Tryz.func149, Tryz.ntmps149
            go_wp2_with fail
            refine (C1.out _).mono ?_
            rintro e w1 ⟨rfl, hb1⟩
            go_wp2_with fail
            refine (C2.out _).mono ?_
            rintro e w2 ⟨rfl, hb2⟩
            go_wp2_with fail
            refine (C3.out _).mono ?_
            rintro e w3 ⟨rfl, hb3⟩
            go_wp2_with fail
            go_ret
            exact ⟨by simp, ((hb1).trans (hb2.mono (hb1.size))).trans (hb3.mono (Nat.le_trans (hb1.size) hb2.size))⟩
          · skip
            rcases e4 : within r 1040 1071 <;> rw [e4] at C4
            · go_enter Tryz.func149, Tryz.ntmps149
              go_wp2_with fail
              refine (C1.out _).mono ?_
              rintro e w1 ⟨rfl, hb1⟩
              go_wp2_with fail
              refine (C2.out _).mono ?_
              rintro e w2 ⟨rfl, hb2⟩
              go_wp2_with fail
              refine (C3.out _).mono ?_
              rintro e w3 ⟨rfl, hb3⟩
              go_wp2_with fail
              refine (C4.out _).mono ?_
              rintro e w4 ⟨rfl, hb4⟩
              go_wp2_with fail
              go_ret
              exact ⟨by simp, (((hb1).trans (hb2.mono (hb1.size))).trans (hb3.mono (Nat.le_trans (hb1.size) hb2.size))).trans (hb4.mono (Nat.le_trans (Nat.le_trans (hb1.size) hb2.size) hb3.size))⟩
            · go_enter Tryz.func149, Tryz.ntmps149
              go_wp2_with fail
              refine (C1.out _).mono ?_
              rintro e w1 ⟨rfl, hb1⟩
              go_wp2_with fail
              refine (C2.out _).mono ?_
              rintro e w2 ⟨rfl, hb2⟩
              go_wp2_with fail
              refine (C3.out _).mono ?_
              rintro e w3 ⟨rfl, hb3⟩
              go_wp2_with fail
              refine (C4.out _).mono ?_
              rintro e w4 ⟨rfl, hb4⟩
              go_wp2_with fail
              go_ret
              exact ⟨by simp, (((hb1).trans (hb2.mono (hb1.size))).trans (hb3.mono (Nat.le_trans (hb1.size) hb2.size))).trans (hb4.mono (Nat.le_trans (Nat.le_trans (hb1.size) hb2.size) hb3.size))⟩
  · go_enter Tryz.func149, Tryz.ntmps149
    go_wp2_with fail
    refine (C1.out _).mono ?_
    rintro e w1 ⟨rfl, hb1⟩
    go_wp2_with fail
    go_ret
    exact ⟨by simp, hb1⟩


set_option maxHeartbeats 4000000 in
theorem local_any (r : Int) (w : World) :
    Calls Tryz.prog 151 #[.int .i32 r] w fun e w' => e = .returned (.bool (localR r)) ∧ Below w.heap.size w w' := by
  have C1 := Lib.hid (fun w => digit_any r w)
  have C5 := Lib.hid (fun w => within_any r 223 255 w)
  have C6 := Lib.hid (fun w => within_any r 945 969 w)
  have C7 := Lib.hid (fun w => within_any r 1072 1103 w)
  unfold localR
  rcases e1 : digit r <;> rw [e1] at C1
  · skip
    rcases q46 : (r == 46)
    · skip
      rcases q45 : (r == 45)
      · skip
        rcases q95 : (r == 95)
        · skip
          rcases e5 : within r 223 255 <;> rw [e5] at C5
          · skip
            rcases e6 : within r 945 969 <;> rw [e6] at C6
            · skip
              rcases e7 : within r 1072 1103 <;> rw [e7] at C7
              · go_enter Tryz.func151, Tryz.ntmps151
                go_wp2_with fail
                refine (C1.out _).mono ?_
                rintro e w1 ⟨rfl, hb1⟩
                go_wp2_with fail
                refine (C5.out _).mono ?_
                rintro e w2 ⟨rfl, hb2⟩
                go_wp2_with fail
                refine (C6.out _).mono ?_
                rintro e w3 ⟨rfl, hb3⟩
                go_wp2_with fail
                refine (C7.out _).mono ?_
                rintro e w4 ⟨rfl, hb4⟩
                go_wp2_with fail
                go_ret
                exact ⟨by simp, (((hb1).trans (hb2.mono (hb1.size))).trans (hb3.mono (Nat.le_trans (hb1.size) hb2.size))).trans (hb4.mono (Nat.le_trans (Nat.le_trans (hb1.size) hb2.size) hb3.size))⟩
              · go_enter Tryz.func151, Tryz.ntmps151
                go_wp2_with fail
                refine (C1.out _).mono ?_
                rintro e w1 ⟨rfl, hb1⟩
                go_wp2_with fail
                refine (C5.out _).mono ?_
                rintro e w2 ⟨rfl, hb2⟩
                go_wp2_with fail
                refine (C6.out _).mono ?_
                rintro e w3 ⟨rfl, hb3⟩
                go_wp2_with fail
                refine (C7.out _).mono ?_
                rintro e w4 ⟨rfl, hb4⟩
                go_wp2_with fail
                go_ret
                exact ⟨by simp, (((hb1).trans (hb2.mono (hb1.size))).trans (hb3.mono (Nat.le_trans (hb1.size) hb2.size))).trans (hb4.mono (Nat.le_trans (Nat.le_trans (hb1.size) hb2.size) hb3.size))⟩
            · go_enter Tryz.func151, Tryz.ntmps151
              go_wp2_with fail
              refine (C1.out _).mono ?_
              rintro e w1 ⟨rfl, hb1⟩
              go_wp2_with fail
              refine (C5.out _).mono ?_
              rintro e w2 ⟨rfl, hb2⟩
              go_wp2_with fail
              refine (C6.out _).mono ?_
              rintro e w3 ⟨rfl, hb3⟩
              go_wp2_with fail
              go_ret
              exact ⟨by simp, ((hb1).trans (hb2.mono (hb1.size))).trans (hb3.mono (Nat.le_trans (hb1.size) hb2.size))⟩
          · rcases q5 : (r == 247) <;> have m5 := not_bne q5
            · go_enter Tryz.func151, Tryz.ntmps151
              go_wp2_with fail
              refine (C1.out _).mono ?_
              rintro e w1 ⟨rfl, hb1⟩
              go_wp2_with fail
              refine (C5.out _).mono ?_
              rintro e w2 ⟨rfl, hb2⟩
              go_wp2_with fail
              go_ret
              exact ⟨by simp, (hb1).trans (hb2.mono (hb1.size))⟩
            · skip
              rcases e6 : within r 945 969 <;> rw [e6] at C6
              · skip
                rcases e7 : within r 1072 1103 <;> rw [e7] at C7
                · go_enter Tryz.func151, Tryz.ntmps151
                  go_wp2_with fail
                  refine (C1.out _).mono ?_
                  rintro e w1 ⟨rfl, hb1⟩
                  go_wp2_with fail
                  refine (C5.out _).mono ?_
                  rintro e w2 ⟨rfl, hb2⟩
                  go_wp2_with fail
                  refine (C6.out _).mono ?_
                  rintro e w3 ⟨rfl, hb3⟩
                  go_wp2_with fail
                  refine (C7.out _).mono ?_
                  rintro e w4 ⟨rfl, hb4⟩
                  go_wp2_with fail
                  go_ret
                  exact ⟨by simp, (((hb1).trans (hb2.mono (hb1.size))).trans (hb3.mono (Nat.le_trans (hb1.size) hb2.size))).trans (hb4.mono (Nat.le_trans (Nat.le_trans (hb1.size) hb2.size) hb3.size))⟩
                · go_enter Tryz.func151, Tryz.ntmps151
                  go_wp2_with fail
                  refine (C1.out _).mono ?_
                  rintro e w1 ⟨rfl, hb1⟩
                  go_wp2_with fail
                  refine (C5.out _).mono ?_
                  rintro e w2 ⟨rfl, hb2⟩
                  go_wp2_with fail
                  refine (C6.out _).mono ?_
                  rintro e w3 ⟨rfl, hb3⟩
                  go_wp2_with fail
                  refine (C7.out _).mono ?_
                  rintro e w4 ⟨rfl, hb4⟩
                  go_wp2_with fail
                  go_ret
                  exact ⟨by simp, (((hb1).trans (hb2.mono (hb1.size))).trans (hb3.mono (Nat.le_trans (hb1.size) hb2.size))).trans (hb4.mono (Nat.le_trans (Nat.le_trans (hb1.size) hb2.size) hb3.size))⟩
              · go_enter Tryz.func151, Tryz.ntmps151
                go_wp2_with fail
                refine (C1.out _).mono ?_
                rintro e w1 ⟨rfl, hb1⟩
                go_wp2_with fail
                refine (C5.out _).mono ?_
                rintro e w2 ⟨rfl, hb2⟩
                go_wp2_with fail
                refine (C6.out _).mono ?_
                rintro e w3 ⟨rfl, hb3⟩
                go_wp2_with fail
                go_ret
                exact ⟨by simp, ((hb1).trans (hb2.mono (hb1.size))).trans (hb3.mono (Nat.le_trans (hb1.size) hb2.size))⟩
        · go_enter Tryz.func151, Tryz.ntmps151
          go_wp2_with fail
          refine (C1.out _).mono ?_
          rintro e w1 ⟨rfl, hb1⟩
          go_wp2_with fail
          go_ret
          exact ⟨by simp, hb1⟩
      · go_enter Tryz.func151, Tryz.ntmps151
        go_wp2_with fail
        refine (C1.out _).mono ?_
        rintro e w1 ⟨rfl, hb1⟩
        go_wp2_with fail
        go_ret
        exact ⟨by simp, hb1⟩
    · go_enter Tryz.func151, Tryz.ntmps151
      go_wp2_with fail
      refine (C1.out _).mono ?_
      rintro e w1 ⟨rfl, hb1⟩
      go_wp2_with fail
      go_ret
      exact ⟨by simp, hb1⟩
  · go_enter Tryz.func151, Tryz.ntmps151
    go_wp2_with fail
    refine (C1.out _).mono ?_
    rintro e w1 ⟨rfl, hb1⟩
    go_wp2_with fail
    go_ret
    exact ⟨by simp, hb1⟩

end Go.Proofs.YthbjcihdlhkboaaGreatDoor
