/- The small functions of the package of names: what each reckons. The small functions of the package of privacy lists: what each reckons, and with what it gives up. A user's name, prepared: what the package of names answers, by what the library's functions answer. A user's name, prepared, at every text. The roster's small functions: what each reckons, and with what it gives up. The reader of rules: what it answers, by what its callees answer. Whether a rule fits. The reader of rules at every text. Setting a list, on the level of lists: what it answers and what it leaves. Setting a list: the walk. Chapter 17's 'wakes': it answers true. A text, cut. A list of texts, cut, in new memory. A roster in memory: what it holds, and what a change of it leaves. -/
import Derived.Test.YthbjcihdlhkboaaGreatDoorProg
import Derived.WalkKit
import Derived.WalkSpells
import Derived.WalkLawsBesides
import Derived.Deep.QuietTactic
import Derived.BigQuiet
import Derived.Below
import Derived.Lib.Hide
import Derived.KernelRfl
import Derived.Defers
import Derived.Recover
import Derived.Shelf.Strings.Cut
import Derived.Lib.IndexBytes
import Derived.IntWalk
import Derived.Test.YthbjcihdlhkboaaGreatDoorShelf
import Derived.Shelf.Unicode.ValidAny
import Derived.Deep.LoopGhost
import Derived.Deep.DeepCutAuto
import Derived.Test.YthbjcihdlhkboaaGreatDoorQ01
import Derived.Test.YthbjcihdlhkboaaGreatDoorQ02
import Derived.Test.YthbjcihdlhkboaaGreatDoorQ03
import Derived.Test.YthbjcihdlhkboaaGreatDoorQ04
import Derived.Test.YthbjcihdlhkboaaGreatDoorQ06
import Derived.Test.YthbjcihdlhkboaaGreatDoorQ07
import Derived.Test.YthbjcihdlhkboaaGreatDoorQ08
import Derived.Test.YthbjcihdlhkboaaGreatDoorQ09
namespace Go.Proofs.YthbjcihdlhkboaaGreatDoor
set_option linter.unusedSimpArgs false
set_option linter.unusedVariables false
open Go.RowKit

def within (r a b : Int) : Bool := decide (a ≤ r) && decide (r ≤ b)
def digit (r : Int) : Bool := within r 97 122 || within r 48 57
def isFold (r : Int) : Bool := within r 65 90 || (within r 192 222 && !(r == 215)) || (within r 913 937 && !(r == 930)) || within r 1040 1071
def fold (r : Int) : Int := if isFold r then r + 32 else r
def localR (r : Int) : Bool := digit r || r == 46 || r == 45 || r == 95 || (within r 223 255 && !(r == 247)) || within r 945 969 || within r 1072 1103

set_option maxHeartbeats 1000000 in
theorem within_any (r a b : Int) (w : World) :
    Calls Tryz.prog 180 #[.int .i32 r, .int .i32 a, .int .i32 b] w fun e w' => e = .returned (.bool (within r a b)) ∧ Below w.heap.size w w' := by
  unfold within
  by_cases h1 : a ≤ r
  · have d1 : decide (a ≤ r) = true := by simpa using h1
    rw [d1]
    go_enter Tryz.func180, Tryz.ntmps180
    go_wp2
    go_ret
    exact ⟨by simp, Below.refl _ _⟩
  · have d1 : decide (a ≤ r) = false := by simpa using h1
    rw [d1]
    go_enter Tryz.func180, Tryz.ntmps180
    go_wp2
    go_ret
    exact ⟨by simp, Below.refl _ _⟩

set_option maxHeartbeats 1000000 in
theorem digit_any (r : Int) (w : World) :
    Calls Tryz.prog 183 #[.int .i32 r] w fun e w' => e = .returned (.bool (digit r)) ∧ Below w.heap.size w w' := by
  have c1 := fun w => within_any r 97 122 w
  have c2 := fun w => within_any r 48 57 w
  unfold digit
  generalize within r 97 122 = b1 at c1 ⊢
  generalize within r 48 57 = b2 at c2 ⊢
  have C1 := Lib.hid c1
  have C2 := Lib.hid c2
  clear c1 c2
  cases b1
  · go_enter Tryz.func183, Tryz.ntmps183
    go_wp2_with fail
    refine (C1.out _).mono ?_
    rintro e w1 ⟨rfl, hb1⟩
    go_wp2_with fail
    refine (C2.out _).mono ?_
    rintro e w2 ⟨rfl, hb2⟩
    go_wp2_with fail
    go_ret
    exact ⟨by simp, hb1.trans (hb2.mono hb1.size)⟩
  · go_enter Tryz.func183, Tryz.ntmps183
    go_wp2_with fail
    refine (C1.out _).mono ?_
    rintro e w1 ⟨rfl, hb1⟩
    go_wp2_with fail
    go_ret
    exact ⟨by simp, hb1⟩


theorem not_bne {r k : Int} {b : Bool} (h : (r == k) = b) : (r != k) = !b := by rw [← h]; rfl

set_option maxHeartbeats 4000000 in
theorem fold_any (r : Int) (h0 : 0 ≤ r) (h1 : r ≤ 1114111) (w : World) :
    Calls Tryz.prog 149 #[.int .i32 r] w fun e w' => e = .returned (.int .i32 (fold r)) ∧ Below w.heap.size w w' := by
  have hw : IntKind.i32.wrap (r + 32) = r + 32 := by
    unfold IntKind.wrap
    simp [IntKind.bits, IntKind.signed]
    omega
  have C1 := Lib.hid (fun w => within_any r 65 90 w)
  have C2 := Lib.hid (fun w => within_any r 192 222 w)
  have C3 := Lib.hid (fun w => within_any r 913 937 w)
  have C4 := Lib.hid (fun w => within_any r 1040 1071 w)
  clear h0 h1
  unfold fold isFold
  rcases hb1 : within r 65 90 <;> rw [hb1] at C1

  · skip
    rcases e2 : within r 192 222 <;> rw [e2] at C2
    · skip
      rcases e3 : within r 913 937 <;> rw [e3] at C3
      · skip
        rcases e4 : within r 1040 1071 <;> rw [e4] at C4
        · go_enter Tryz.func149, Tryz.ntmps149
          go_wp2_with fail
          refine (C1.out _).mono ?_
          rintro e w1 ⟨rfl, hb1⟩
          go_wp2_with fail
          refine (C2.out _).mono ?_
          rintro e w2 ⟨rfl, hb2⟩
          go_wp2_with fail
          refine (C3.out _).mono ?_
          rintro e w3 ⟨rfl, hb3⟩
          go_wp2_with fail
          refine (C4.out _).mono ?_
          rintro e w4 ⟨rfl, hb4⟩
          go_wp2_with fail
          go_ret
          exact ⟨by simp, (((hb1).trans (hb2.mono (hb1.size))).trans (hb3.mono (Nat.le_trans (hb1.size) hb2.size))).trans (hb4.mono (Nat.le_trans (Nat.le_trans (hb1.size) hb2.size) hb3.size))⟩
        · go_enter Tryz.func149, Tryz.ntmps149
          go_wp2_with fail
          refine (C1.out _).mono ?_
          rintro e w1 ⟨rfl, hb1⟩
          go_wp2_with fail
          refine (C2.out _).mono ?_
          rintro e w2 ⟨rfl, hb2⟩
          go_wp2_with fail
          refine (C3.out _).mono ?_
          rintro e w3 ⟨rfl, hb3⟩
          go_wp2_with fail
          refine (C4.out _).mono ?_
          rintro e w4 ⟨rfl, hb4⟩
          go_wp2_with fail
          go_ret
          exact ⟨by simp, (((hb1).trans (hb2.mono (hb1.size))).trans (hb3.mono (Nat.le_trans (hb1.size) hb2.size))).trans (hb4.mono (Nat.le_trans (Nat.le_trans (hb1.size) hb2.size) hb3.size))⟩
      · rcases q3 : (r == 930) <;> have m3 := not_bne q3
        · go_enter Tryz.func149, Tryz.ntmps149
          go_wp2_with fail
          refine (C1.out _).mono ?_
          rintro e w1 ⟨rfl, hb1⟩
          go_wp2_with fail
          refine (C2.out _).mono ?_
          rintro e w2 ⟨rfl, hb2⟩
          go_wp2_with fail
          refine (C3.out _).mono ?_
          rintro e w3 ⟨rfl, hb3⟩
          go_wp2_with fail
          go_ret
          exact ⟨by simp, ((hb1).trans (hb2.mono (hb1.size))).trans (hb3.mono (Nat.le_trans (hb1.size) hb2.size))⟩
        · skip
          rcases e4 : within r 1040 1071 <;> rw [e4] at C4
          · go_enter Tryz.func149, Tryz.ntmps149
            go_wp2_with fail
            refine (C1.out _).mono ?_
            rintro e w1 ⟨rfl, hb1⟩
            go_wp2_with fail
            refine (C2.out _).mono ?_
            rintro e w2 ⟨rfl, hb2⟩
            go_wp2_with fail
            refine (C3.out _).mono ?_
            rintro e w3 ⟨rfl, hb3⟩
            go_wp2_with fail
            refine (C4.out _).mono ?_
            rintro e w4 ⟨rfl, hb4⟩
            go_wp2_with fail
            go_ret
            exact ⟨by simp, (((hb1).trans (hb2.mono (hb1.size))).trans (hb3.mono (Nat.le_trans (hb1.size) hb2.size))).trans (hb4.mono (Nat.le_trans (Nat.le_trans (hb1.size) hb2.size) hb3.size))⟩
          · go_enter Tryz.func149, Tryz.ntmps149
            go_wp2_with fail
            refine (C1.out _).mono ?_
            rintro e w1 ⟨rfl, hb1⟩
            go_wp2_with fail
            refine (C2.out _).mono ?_
            rintro e w2 ⟨rfl, hb2⟩
            go_wp2_with fail
            refine (C3.out _).mono ?_
            rintro e w3 ⟨rfl, hb3⟩
            go_wp2_with fail
            refine (C4.out _).mono ?_
            rintro e w4 ⟨rfl, hb4⟩
            go_wp2_with fail
            go_ret
            exact ⟨by simp, (((hb1).trans (hb2.mono (hb1.size))).trans (hb3.mono (Nat.le_trans (hb1.size) hb2.size))).trans (hb4.mono (Nat.le_trans (Nat.le_trans (hb1.size) hb2.size) hb3.size))⟩
    · rcases q2 : (r == 215) <;> have m2 := not_bne q2
      · go_enter Tryz.func149, Tryz.ntmps149
        go_wp2_with fail
        refine (C1.out _).mono ?_
        rintro e w1 ⟨rfl, hb1⟩
        go_wp2_with fail
        refine (C2.out _).mono ?_
        rintro e w2 ⟨rfl, hb2⟩
        go_wp2_with fail
        go_ret
        exact ⟨by simp, (hb1).trans (hb2.mono (hb1.size))⟩
      · skip
        rcases e3 : within r 913 937 <;> rw [e3] at C3
        · skip
          rcases e4 : within r 1040 1071 <;> rw [e4] at C4
          · go_enter Tryz.func149, Tryz.ntmps149
            go_wp2_with fail
            refine (C1.out _).mono ?_
            rintro e w1 ⟨rfl, hb1⟩
            go_wp2_with fail
            refine (C2.out _).mono ?_
            rintro e w2 ⟨rfl, hb2⟩
            go_wp2_with fail
            refine (C3.out _).mono ?_
            rintro e w3 ⟨rfl, hb3⟩
            go_wp2_with fail
            refine (C4.out _).mono ?_
            rintro e w4 ⟨rfl, hb4⟩
            go_wp2_with fail
            go_ret
            exact ⟨by simp, (((hb1).trans (hb2.mono (hb1.size))).trans (hb3.mono (Nat.le_trans (hb1.size) hb2.size))).trans (hb4.mono (Nat.le_trans (Nat.le_trans (hb1.size) hb2.size) hb3.size))⟩
          · go_enter Tryz.func149, Tryz.ntmps149
            go_wp2_with fail
            refine (C1.out _).mono ?_
            rintro e w1 ⟨rfl, hb1⟩
            go_wp2_with fail
            refine (C2.out _).mono ?_
            rintro e w2 ⟨rfl, hb2⟩
            go_wp2_with fail
            refine (C3.out _).mono ?_
            rintro e w3 ⟨rfl, hb3⟩
            go_wp2_with fail
            refine (C4.out _).mono ?_
            rintro e w4 ⟨rfl, hb4⟩
            go_wp2_with fail
            go_ret
            exact ⟨by simp, (((hb1).trans (hb2.mono (hb1.size))).trans (hb3.mono (Nat.le_trans (hb1.size) hb2.size))).trans (hb4.mono (Nat.le_trans (Nat.le_trans (hb1.size) hb2.size) hb3.size))⟩
        · rcases q3 : (r == 930) <;> have m3 := not_bne q3
          · go_enter Tryz.func149, Tryz.ntmps149
            go_wp2_with fail
            refine (C1.out _).mono ?_
            rintro e w1 ⟨rfl, hb1⟩
            go_wp2_with fail
            refine (C2.out _).mono ?_
            rintro e w2 ⟨rfl, hb2⟩
            go_wp2_with fail
            refine (C3.out _).mono ?_
            rintro e w3 ⟨rfl, hb3⟩
            go_wp2_with fail
            go_ret
            exact ⟨by simp, ((hb1).trans (hb2.mono (hb1.size))).trans (hb3.mono (Nat.le_trans (hb1.size) hb2.size))⟩
          · skip
            rcases e4 : within r 1040 1071 <;> rw [e4] at C4
            · go_enter Tryz.func149, Tryz.ntmps149
              go_wp2_with fail
              refine (C1.out _).mono ?_
              rintro e w1 ⟨rfl, hb1⟩
              go_wp2_with fail
              refine (C2.out _).mono ?_
              rintro e w2 ⟨rfl, hb2⟩
              go_wp2_with fail
              refine (C3.out _).mono ?_
              rintro e w3 ⟨rfl, hb3⟩
              go_wp2_with fail
              refine (C4.out _).mono ?_
              rintro e w4 ⟨rfl, hb4⟩
              go_wp2_with fail
              go_ret
              exact ⟨by simp, (((hb1).trans (hb2.mono (hb1.size))).trans (hb3.mono (Nat.le_trans (hb1.size) hb2.size))).trans (hb4.mono (Nat.le_trans (Nat.le_trans (hb1.size) hb2.size) hb3.size))⟩
            · go_enter Tryz.func149, Tryz.ntmps149
              go_wp2_with fail
              refine (C1.out _).mono ?_
              rintro e w1 ⟨rfl, hb1⟩
              go_wp2_with fail
              refine (C2.out _).mono ?_
              rintro e w2 ⟨rfl, hb2⟩
              go_wp2_with fail
              refine (C3.out _).mono ?_
              rintro e w3 ⟨rfl, hb3⟩
              go_wp2_with fail
              refine (C4.out _).mono ?_
              rintro e w4 ⟨rfl, hb4⟩
              go_wp2_with fail
              go_ret
              exact ⟨by simp, (((hb1).trans (hb2.mono (hb1.size))).trans (hb3.mono (Nat.le_trans (hb1.size) hb2.size))).trans (hb4.mono (Nat.le_trans (Nat.le_trans (hb1.size) hb2.size) hb3.size))⟩
  · go_enter Tryz.func149, Tryz.ntmps149
    go_wp2_with fail
    refine (C1.out _).mono ?_
    rintro e w1 ⟨rfl, hb1⟩
    go_wp2_with fail
    go_ret
    exact ⟨by simp, hb1⟩


set_option maxHeartbeats 4000000 in
theorem local_any (r : Int) (w : World) :
    Calls Tryz.prog 151 #[.int .i32 r] w fun e w' => e = .returned (.bool (localR r)) ∧ Below w.heap.size w w' := by
  have C1 := Lib.hid (fun w => digit_any r w)
  have C5 := Lib.hid (fun w => within_any r 223 255 w)
  have C6 := Lib.hid (fun w => within_any r 945 969 w)
  have C7 := Lib.hid (fun w => within_any r 1072 1103 w)
  unfold localR
  rcases e1 : digit r <;> rw [e1] at C1
  · skip
    rcases q46 : (r == 46)
    · skip
      rcases q45 : (r == 45)
      · skip
        rcases q95 : (r == 95)
        · skip
          rcases e5 : within r 223 255 <;> rw [e5] at C5
          · skip
            rcases e6 : within r 945 969 <;> rw [e6] at C6
            · skip
              rcases e7 : within r 1072 1103 <;> rw [e7] at C7
              · go_enter Tryz.func151, Tryz.ntmps151
                go_wp2_with fail
                refine (C1.out _).mono ?_
                rintro e w1 ⟨rfl, hb1⟩
                go_wp2_with fail
                refine (C5.out _).mono ?_
                rintro e w2 ⟨rfl, hb2⟩
                go_wp2_with fail
                refine (C6.out _).mono ?_
                rintro e w3 ⟨rfl, hb3⟩
                go_wp2_with fail
                refine (C7.out _).mono ?_
                rintro e w4 ⟨rfl, hb4⟩
                go_wp2_with fail
                go_ret
                exact ⟨by simp, (((hb1).trans (hb2.mono (hb1.size))).trans (hb3.mono (Nat.le_trans (hb1.size) hb2.size))).trans (hb4.mono (Nat.le_trans (Nat.le_trans (hb1.size) hb2.size) hb3.size))⟩
              · go_enter Tryz.func151, Tryz.ntmps151
                go_wp2_with fail
                refine (C1.out _).mono ?_
                rintro e w1 ⟨rfl, hb1⟩
                go_wp2_with fail
                refine (C5.out _).mono ?_
                rintro e w2 ⟨rfl, hb2⟩
                go_wp2_with fail
                refine (C6.out _).mono ?_
                rintro e w3 ⟨rfl, hb3⟩
                go_wp2_with fail
                refine (C7.out _).mono ?_
                rintro e w4 ⟨rfl, hb4⟩
                go_wp2_with fail
                go_ret
                exact ⟨by simp, (((hb1).trans (hb2.mono (hb1.size))).trans (hb3.mono (Nat.le_trans (hb1.size) hb2.size))).trans (hb4.mono (Nat.le_trans (Nat.le_trans (hb1.size) hb2.size) hb3.size))⟩
            · go_enter Tryz.func151, Tryz.ntmps151
              go_wp2_with fail
              refine (C1.out _).mono ?_
              rintro e w1 ⟨rfl, hb1⟩
              go_wp2_with fail
              refine (C5.out _).mono ?_
              rintro e w2 ⟨rfl, hb2⟩
              go_wp2_with fail
              refine (C6.out _).mono ?_
              rintro e w3 ⟨rfl, hb3⟩
              go_wp2_with fail
              go_ret
              exact ⟨by simp, ((hb1).trans (hb2.mono (hb1.size))).trans (hb3.mono (Nat.le_trans (hb1.size) hb2.size))⟩
          · rcases q5 : (r == 247) <;> have m5 := not_bne q5
            · go_enter Tryz.func151, Tryz.ntmps151
              go_wp2_with fail
              refine (C1.out _).mono ?_
              rintro e w1 ⟨rfl, hb1⟩
              go_wp2_with fail
              refine (C5.out _).mono ?_
              rintro e w2 ⟨rfl, hb2⟩
              go_wp2_with fail
              go_ret
              exact ⟨by simp, (hb1).trans (hb2.mono (hb1.size))⟩
            · skip
              rcases e6 : within r 945 969 <;> rw [e6] at C6
              · skip
                rcases e7 : within r 1072 1103 <;> rw [e7] at C7
                · go_enter Tryz.func151, Tryz.ntmps151
                  go_wp2_with fail
                  refine (C1.out _).mono ?_
                  rintro e w1 ⟨rfl, hb1⟩
                  go_wp2_with fail
                  refine (C5.out _).mono ?_
                  rintro e w2 ⟨rfl, hb2⟩
                  go_wp2_with fail
                  refine (C6.out _).mono ?_
                  rintro e w3 ⟨rfl, hb3⟩
                  go_wp2_with fail
                  refine (C7.out _).mono ?_
                  rintro e w4 ⟨rfl, hb4⟩
                  go_wp2_with fail
                  go_ret
                  exact ⟨by simp, (((hb1).trans (hb2.mono (hb1.size))).trans (hb3.mono (Nat.le_trans (hb1.size) hb2.size))).trans (hb4.mono (Nat.le_trans (Nat.le_trans (hb1.size) hb2.size) hb3.size))⟩
                · go_enter Tryz.func151, Tryz.ntmps151
                  go_wp2_with fail
                  refine (C1.out _).mono ?_
                  rintro e w1 ⟨rfl, hb1⟩
                  go_wp2_with fail
                  refine (C5.out _).mono ?_
                  rintro e w2 ⟨rfl, hb2⟩
                  go_wp2_with fail
                  refine (C6.out _).mono ?_
                  rintro e w3 ⟨rfl, hb3⟩
                  go_wp2_with fail
                  refine (C7.out _).mono ?_
                  rintro e w4 ⟨rfl, hb4⟩
                  go_wp2_with fail
                  go_ret
                  exact ⟨by simp, (((hb1).trans (hb2.mono (hb1.size))).trans (hb3.mono (Nat.le_trans (hb1.size) hb2.size))).trans (hb4.mono (Nat.le_trans (Nat.le_trans (hb1.size) hb2.size) hb3.size))⟩
              · go_enter Tryz.func151, Tryz.ntmps151
                go_wp2_with fail
                refine (C1.out _).mono ?_
                rintro e w1 ⟨rfl, hb1⟩
                go_wp2_with fail
                refine (C5.out _).mono ?_
                rintro e w2 ⟨rfl, hb2⟩
                go_wp2_with fail
                refine (C6.out _).mono ?_
                rintro e w3 ⟨rfl, hb3⟩
                go_wp2_with fail
                go_ret
                exact ⟨by simp, ((hb1).trans (hb2.mono (hb1.size))).trans (hb3.mono (Nat.le_trans (hb1.size) hb2.size))⟩
        · go_enter Tryz.func151, Tryz.ntmps151
          go_wp2_with fail
          refine (C1.out _).mono ?_
          rintro e w1 ⟨rfl, hb1⟩
          go_wp2_with fail
          go_ret
          exact ⟨by simp, hb1⟩
      · go_enter Tryz.func151, Tryz.ntmps151
        go_wp2_with fail
        refine (C1.out _).mono ?_
        rintro e w1 ⟨rfl, hb1⟩
        go_wp2_with fail
        go_ret
        exact ⟨by simp, hb1⟩
    · go_enter Tryz.func151, Tryz.ntmps151
      go_wp2_with fail
      refine (C1.out _).mono ?_
      rintro e w1 ⟨rfl, hb1⟩
      go_wp2_with fail
      go_ret
      exact ⟨by simp, hb1⟩
  · go_enter Tryz.func151, Tryz.ntmps151
    go_wp2_with fail
    refine (C1.out _).mono ?_
    rintro e w1 ⟨rfl, hb1⟩
    go_wp2_with fail
    go_ret
    exact ⟨by simp, hb1⟩

end Go.Proofs.YthbjcihdlhkboaaGreatDoor

namespace Go.Proofs.YthbjcihdlhkboaaGreatDoor
set_option linter.unusedSimpArgs false
set_option linter.unusedVariables false
open Go.RowKit

/-- What a call of some function hands back in every later world. -/
def Gives (w : World) (f : Nat) (args : Array Value) (v : Value) : Prop :=
  ∀ W, Below w.heap.size w W → Calls Tryz.prog f args W fun e w' => e = .returned v ∧ Below W.heap.size W w'
theorem Gives.here {w : World} {f : Nat} {args : Array Value} {v : Value} (h : Gives w f args v) : Calls Tryz.prog f args w fun e w' => e = .returned v ∧ Below w.heap.size w w' := h w (Below.refl _ _)

/-- The error of the name of a list, of a group. -/
def wordE (s : ByteArray) (valid : Bool) : Int := if 64 < s.size then 5 else if s.toList == [] || !valid then 4 else 0

end Go.Proofs.YthbjcihdlhkboaaGreatDoor

namespace Go.Proofs.YthbjcihdlhkboaaGreatDoor
set_option linter.unusedSimpArgs false
set_option linter.unusedVariables false
open Go.RowKit Go.Shelf Go.Lib

/-- The library's tables as their initialisers lay them. -/
def Tabs (w : World) : Prop := Lib.Utf8Tabs 0 1 w ∧ ∃ m, w.cell? ⟨2, 0, none⟩ = some (.int .i64 m)
theorem Tabs.later {w w' : World} (h : Tabs w) (hb : Below w.heap.size w w') : Tabs w' := by
  obtain ⟨h1, m, h2⟩ := h
  exact ⟨Utf8Tabs_below h1 hb, m, (hb.cell (World.block_lt_of_cell? w _ h2)).trans h2⟩

theorem valid_any (s : ByteArray) (w : World) (hT : Tabs w) (hs : s.size ≤ 9223372036854775807) :
    Gives w 131 #[.string s] (.bool (Lib.validD s.data.toList)) := by
  intro W hW
  exact Any.utf8_ValidString Tryz.lays196 s W hs (hT.later hW).1

theorem fold_pays (w : World) : MapGrows Tryz.prog 149 #[] fold w := by
  intro W x hx hb
  exact fold_any (x : Int) (by omega) (by omega) W

theorem fold_range (x : Nat) (hx : x ≤ 1114111) : -2147483648 ≤ fold x ∧ fold x ≤ 2147483647 := by
  unfold fold
  split <;> omega

theorem map_any (s : ByteArray) (w : World) (hT : Tabs w) (hs : s.size < 35184372088832) :
    Calls Tryz.prog 148 #[.func (.func 149) #[] #[], .string s] w fun e w' => e = .returned (.string ⟨(Lib.mapD fold s.data.toList).toArray⟩) ∧ Below w.heap.size w w' :=
  Any.strings_Map_grows Tryz.lays230 Tryz.Builder_Extra_230 149 #[] (enters_of Tryz.func149 (by kernel_rfl) rfl) fold s w hs (fold_pays w) fold_range hT.1

set_option maxHeartbeats 1000000 in
theorem clo_local (B : Nat) (w : World) (hB : B < w.heap.size) (hc : w.cell? ⟨B, 0, none⟩ = some (.func (.func 151) #[] #[])) :
    PredGrows Tryz.prog 182 #[.pointer (some ⟨B, 0, none⟩)] (fun x => !localR x) w := by
  intro W x hx hb
  have hc' := (hb.cell (p := ⟨B, 0, none⟩) hB).trans hc
  have C := Lib.hid (local_any (x : Int) W)
  clear hc hb hB
  show Calls Tryz.prog 182 #[.int .i32 (x : Int), .pointer (some ⟨B, 0, none⟩)] W _
  go_enter Tryz.func182, Tryz.ntmps182
  go_wp2_with fail
  refine C.out.mono ?_
  rintro e w1 ⟨rfl, hb1⟩
  go_wp2_with fail
  go_ret
  exact ⟨rfl, hb1⟩

def allB (p : Int → Bool) (s : ByteArray) : Bool := decide (Lib.idxFunc (fun x => !p x) true s < 0)

set_option maxHeartbeats 1000000 in
theorem all_local (s : ByteArray) (w : World) :
    Calls Tryz.prog 150 #[.string s, .func (.func 151) #[] #[]] w fun e w' => e = .returned (.bool (allB localR s)) ∧ Below w.heap.size w w' := by
  have hmf : ∀ (fn : Fn) (first cap : Array Value) (w : World), (Instr.makeFunc fn first cap).run Tryz.prog w = .ok (.func fn first cap) w := fun _ _ _ _ => rfl
  have hC := Lib.hid (fun W hB hc => Any.strings_IndexFunc_grows Tryz.laysGw15 182 #[.pointer (some ⟨w.heap.size, 0, none⟩)] (enters_of Tryz.func182 (by kernel_rfl) rfl) (fun x => !localR x) s W (clo_local w.heap.size W hB hc))
  unfold allB
  generalize Lib.idxFunc (fun x => !localR x) true s = I at hC ⊢
  go_enter Tryz.func150, Tryz.ntmps150
  go_wp2_with fail
  refine (hC.out _ (by simp) (by simp)).mono ?_
  rintro e w1 ⟨rfl, hb1⟩
  go_wp2_with fail
  go_ret
  exact ⟨rfl, Below.trans (Below.alloc (Below.refl _ _) (Nat.le_refl _) _) (hb1.mono (by simp))⟩

end Go.Proofs.YthbjcihdlhkboaaGreatDoor

namespace Go.Proofs.YthbjcihdlhkboaaGreatDoor
set_option linter.unusedSimpArgs false
set_option linter.unusedVariables false
open Go.RowKit Go.Shelf Go.Lib

set_option maxHeartbeats 1000000 in
theorem sized_any (s : ByteArray) (valid : Bool) (w : World) (hv : Gives w 131 #[.string s] (.bool valid)) :
    Calls Tryz.prog 147 #[.string s] w fun e w' => e = .returned (.int .i64 (wordE s valid)) ∧ Below w.heap.size w w' := by
  have HV := Lib.hid hv.here
  clear hv
  unfold wordE
  by_cases h1 : 64 < s.size
  · rw [if_pos h1]
    have h2 : (64 : Int) < (s.size : Int) := by omega
    clear HV
    go_enter Tryz.func147, Tryz.ntmps147
    go_wp2_with fail
    go_ret
    exact ⟨rfl, Below.refl _ _⟩
  · rw [if_neg h1]
    have h2 : ¬ (64 : Int) < (s.size : Int) := by omega
    cases h3 : s.toList == []
    · cases valid
      · go_enter Tryz.func147, Tryz.ntmps147
        go_wp2_with fail
        refine HV.out.mono ?_
        rintro e w1 ⟨rfl, hb1⟩
        go_wp2_with fail
        go_ret
        exact ⟨by simp, hb1⟩
      · go_enter Tryz.func147, Tryz.ntmps147
        go_wp2_with fail
        refine HV.out.mono ?_
        rintro e w1 ⟨rfl, hb1⟩
        go_wp2_with fail
        go_ret
        exact ⟨by simp, hb1⟩
    · clear HV
      go_enter Tryz.func147, Tryz.ntmps147
      go_wp2_with fail
      go_ret
      exact ⟨by simp, Below.refl _ _⟩

/-- A user's name with its capitals folded. -/
def folded (s : ByteArray) : ByteArray := ⟨(Lib.mapD fold s.data.toList).toArray⟩
def validB (s : ByteArray) : Bool := Lib.validD s.data.toList
/-- A user's name, prepared, and the error. -/
def localS (s : ByteArray) : ByteArray × Int :=
  if wordE s (validB s) = 0 then (if allB localR (folded s) then (folded s, 0) else (⟨#[]⟩, 4)) else (⟨#[]⟩, wordE s (validB s))

set_option maxHeartbeats 1000000 in
theorem local_full (s : ByteArray) (w : World) (hT : Tabs w) (hs : s.size ≤ 9223372036854775807) :
    Calls Tryz.prog 110 #[.string s] w fun e w' => e = .returned (.tuple #[.string (localS s).1, .int .i64 (localS s).2]) ∧ Below w.heap.size w w' := by
  have hsm : wordE s (validB s) = 0 → s.size ≤ 64 := by
    intro h
    unfold wordE at h
    split at h
    · omega
    · omega
  have hv := valid_any s w hT (by omega)
  have C1 := Lib.hid (sized_any s (validB s) w hv)
  have HT := Lib.hid hT
  have HS := Lib.hid hsm
  clear hT hs hv hsm
  unfold localS
  generalize hE : wordE s (validB s) = E at C1 HS ⊢
  by_cases h0 : E = 0
  · subst h0
    rw [if_pos rfl]
    clear hE
    have c2 : ∀ W (hW : Below w.heap.size w W), Calls Tryz.prog 148 #[.func (.func 149) #[] #[], .string s] W fun e w' => e = .returned (.string (folded s)) ∧ Below W.heap.size W w' := fun W hW => map_any s W (HT.out.later hW) (by have := HS.out rfl; omega)
    have C2 := Lib.hid c2
    have C3 := Lib.hid (fun W => all_local (folded s) W)
    clear c2
    generalize folded s = M at C2 C3 ⊢
    cases hA : allB localR M
    · rw [hA] at C3
      go_enter Tryz.func110, Tryz.ntmps110
      go_wp2_with fail
      refine C1.out.mono ?_
      rintro e w1 ⟨rfl, hb1⟩
      go_wp2_with fail
      refine (C2.out _ hb1).mono ?_
      rintro e w2 ⟨rfl, hb2⟩
      go_wp2_with fail
      refine (C3.out _).mono ?_
      rintro e w3 ⟨rfl, hb3⟩
      go_wp2_with fail
      go_ret2
      exact ⟨by simp, (hb1.trans (hb2.mono hb1.size)).trans (hb3.mono (Nat.le_trans hb1.size hb2.size))⟩
    · rw [hA] at C3
      go_enter Tryz.func110, Tryz.ntmps110
      go_wp2_with fail
      refine C1.out.mono ?_
      rintro e w1 ⟨rfl, hb1⟩
      go_wp2_with fail
      refine (C2.out _ hb1).mono ?_
      rintro e w2 ⟨rfl, hb2⟩
      go_wp2_with fail
      refine (C3.out _).mono ?_
      rintro e w3 ⟨rfl, hb3⟩
      go_wp2_with fail
      go_ret2
      exact ⟨by simp, (hb1.trans (hb2.mono hb1.size)).trans (hb3.mono (Nat.le_trans hb1.size hb2.size))⟩
  · rw [if_neg h0]
    have n0 : (E == 0) = false := by simpa using h0
    have n1 : (E != 0) = true := by simpa using h0
    clear h0 hE
    go_enter Tryz.func110, Tryz.ntmps110
    go_wp2_with fail
    refine C1.out.mono ?_
    rintro e w1 ⟨rfl, hb1⟩
    go_wp2_with fail
    go_ret2
    exact ⟨rfl, hb1⟩

end Go.Proofs.YthbjcihdlhkboaaGreatDoor

namespace Go.Proofs.YthbjcihdlhkboaaGreatDoor
set_option linter.unusedSimpArgs false
set_option linter.unusedVariables false
open Go.RowKit Go.Shelf Go.Lib

def rfailsV (c : Int) : Value := .iface 163 (.agg #[.int .i64 c])

set_option maxHeartbeats 400000 in
theorem rcheck_ok (w : World) :
    Calls Tryz.prog 72 #[.int .i64 0] w fun e w' => e = .returned (.tuple #[]) ∧ w' = w := by
  go_enter Tryz.func72, Tryz.ntmps72
  go_wp2
  go_end0
  exact ⟨rfl, rfl⟩

set_option maxHeartbeats 400000 in
theorem rcheck_no (c : Int) (hc : c ≠ 0) (w : World) :
    Calls Tryz.prog 72 #[.int .i64 c] w fun e w' => e = .panicked [{ v := rfailsV c, recovered := false }] ∧ w' = w := by
  have h1 : (c == 0) = false := by simpa using hc
  have h2 : (c != 0) = true := by simpa using hc
  go_enter Tryz.func72, Tryz.ntmps72
  go_wp2
  exact ⟨rfl, rfl, rfl⟩

set_option maxHeartbeats 400000 in
theorem rmust_yes (c : Int) (w : World) :
    Calls Tryz.prog 67 #[.bool true, .int .i64 c] w fun e w' => e = .returned (.tuple #[]) ∧ w' = w := by
  go_enter Tryz.func67, Tryz.ntmps67
  go_wp2
  go_end0
  exact ⟨rfl, rfl⟩

set_option maxHeartbeats 400000 in
theorem rmust_no (c : Int) (hc : c ≠ 0) (w : World) :
    Calls Tryz.prog 67 #[.bool false, .int .i64 c] w fun e w' => e = .panicked [{ v := rfailsV c, recovered := false }] ∧ w' = w := by
  go_enter Tryz.func67, Tryz.ntmps67
  go_wp2_with fail
  refine (rcheck_no c hc _).mono ?_
  rintro e w' ⟨rfl, rfl⟩
  go_wp2_with fail
  exact ⟨rfl, rfl, rfl⟩

set_option maxHeartbeats 1000000 in
theorem rlocal_ok (s : ByteArray) (w : World) (hT : Tabs w) (hs : s.size ≤ 9223372036854775807) (h : (localS s).2 = 0) :
    Calls Tryz.prog 60 #[.string s] w fun e w' => e = .returned (.string (localS s).1) ∧ Below w.heap.size w w' := by
  have C := Lib.hid (local_full s w hT hs)
  rw [h] at C
  clear h hs hT
  go_enter Tryz.func60, Tryz.ntmps60
  go_wp2_with fail
  refine C.out.mono ?_
  rintro e w1 ⟨rfl, hb1⟩
  go_wp2_with fail
  refine (rcheck_ok _).mono ?_
  rintro e w' ⟨rfl, rfl⟩
  go_wp2_with fail
  go_ret
  exact ⟨rfl, hb1⟩

set_option maxHeartbeats 1000000 in
theorem rlocal_no (s : ByteArray) (w : World) (hT : Tabs w) (hs : s.size ≤ 9223372036854775807) (h : (localS s).2 ≠ 0) :
    Calls Tryz.prog 60 #[.string s] w fun e w' => e = .panicked [{ v := rfailsV (localS s).2, recovered := false }] ∧ Below w.heap.size w w' := by
  have C := Lib.hid (local_full s w hT hs)
  generalize (localS s).2 = c at *
  have HC := Lib.hid h
  clear h hs hT
  go_enter Tryz.func60, Tryz.ntmps60
  go_wp2_with fail
  refine C.out.mono ?_
  rintro e w1 ⟨rfl, hb1⟩
  go_wp2_with fail
  refine (rcheck_no _ HC.out _).mono ?_
  rintro e w' ⟨rfl, rfl⟩
  go_wp2_with fail
  exact ⟨rfl, rfl, hb1⟩

set_option maxHeartbeats 1000000 in
theorem tries_d_panics (b : Nat) (c : Int) (older : List PanicEntry) (w : World) (e0 : Value) (h0 : w.heap[b]? = some (.cells #[e0] 24)) :
    CallsD Tryz.prog 113 #[.pointer (some ⟨b, 0, none⟩)] (.panicking ({ v := rfailsV c, recovered := false } :: older)) w fun e u' w' =>
      e = .returned (.tuple #[]) ∧ u' = .panicking ({ v := rfailsV c, recovered := true } :: older) ∧ w' = w.setCell ⟨b, 0, none⟩ (.int .i64 c) := by
  have ht : ∀ w, (Instr.typeAssert (.iface 163 (.agg #[.int .i64 c])) 20 163 false).run Tryz.prog w = .ok (.agg #[.int .i64 c]) w := fun _ => by kernel_rfl
  have hf : ∀ w, (Instr.field 163 (.agg #[.int .i64 c]) 0).run Tryz.prog w = .ok (.int .i64 c) w := fun _ => by kernel_rfl
  have c0 : w.cell? ⟨b, 0, none⟩ = some e0 := blk_cell h0 0
  have f0 : w.frozen? ⟨b, 0, none⟩ = false := blk_frozen h0 0
  clear h0
  unfold rfailsV
  refine callsD_of_wpS Tryz.func113 rfl fun c₀ cs hu => ?_
  apply wpS_seq
  apply wpS_region
  simp [wpOpsS, go_sem, recoverD, hu, Tryz.ntmps113]
  refine wpS_of_wp ?_
  go_wp2_with fail
  simp [bodyPostS, results, Tryz.results113]

set_option maxHeartbeats 1000000 in
theorem tries_d_returns (p0 : Value) (w : World) :
    CallsD Tryz.prog 113 #[p0] .returning w fun e u' w' => e = .returned (.tuple #[]) ∧ u' = .returning ∧ w' = w := by
  refine callsD_of_wpS Tryz.func113 rfl fun c₀ cs hu => ?_
  apply wpS_seq
  apply wpS_region
  simp [wpOpsS, go_sem, recoverD, hu, Tryz.ntmps113]
  refine wpS_of_wp ?_
  go_wp2
  cases c₀
  simp_all [bodyPostS, results, Tryz.results113]

set_option maxHeartbeats 2000000 in
/-- What is tried ends well. -/
theorem tries_ok (F : Nat) (caps : Array Value) (w : World) (Q : World → Prop) (hE : ∀ args w, (callFunc F args).run Tryz.prog w = .ok (.enter F args) w)
    (hF : Calls Tryz.prog F caps (w.alloc (.cells #[.int .i64 0] 24)) fun e w' => e = .returned (.tuple #[]) ∧ w'.heap[w.heap.size]? = some (.cells #[.int .i64 0] 24) ∧ Q w') :
    Calls Tryz.prog 58 #[.func (.func F) #[] caps] w fun e w' => e = .returned (.int .i64 0) ∧ ∃ w1, Q w1 ∧ w1.heap[w.heap.size]? = some (.cells #[.int .i64 0] 24) ∧ w' = w1.setCell ⟨w.heap.size, 0, none⟩ (.int .i64 0) := by
  have HF := Lib.hid hF
  clear hF
  have hmf : ∀ (fn : Fn) (first cap : Array Value) (w : World), (Instr.makeFunc fn first cap).run Tryz.prog w = .ok (.func fn first cap) w := fun _ _ _ _ => rfl
  go_enter_defers Tryz.func58, Tryz.ntmps58
  go_wp2_with fail
  refine HF.out.mono ?_
  rintro e w1 ⟨rfl, h1, hq⟩
  have c0 : w1.cell? ⟨w.heap.size, 0, none⟩ = some (.int .i64 0) := blk_cell h1 0
  have f0 : w1.frozen? ⟨w.heap.size, 0, none⟩ = false := blk_frozen h1 0
  have HQ := Lib.hid (And.intro hq h1)
  clear hq h1
  go_wp2_with fail
  refine leaves_cons (f := 113) (args := #[.pointer (some ⟨w.heap.size, 0, none⟩)]) (by simp) (by simp [go_sem]) ?_
  refine (tries_d_returns _ _).mono ?_
  rintro e u' w'' ⟨rfl, rfl, rfl⟩
  have c1 : (w1.setCell ⟨w.heap.size, 0, none⟩ (.int .i64 0)).cell? ⟨w.heap.size, 0, none⟩ = some (.int .i64 0) := blk_cell (blk_set_same HQ.out.2 0 _) 0
  simp [Leaves, settle, results, Tryz.results58, go_sem, *]
  exact ⟨w1, HQ.out.1, HQ.out.2, rfl⟩

set_option maxHeartbeats 2000000 in
/-- What is tried gives up. -/
theorem tries_no (F : Nat) (caps : Array Value) (w : World) (c : Int) (Q : World → Prop) (hE : ∀ args w, (callFunc F args).run Tryz.prog w = .ok (.enter F args) w)
    (hF : Calls Tryz.prog F caps (w.alloc (.cells #[.int .i64 0] 24)) fun e w' => e = .panicked [{ v := rfailsV c, recovered := false }] ∧ w'.heap[w.heap.size]? = some (.cells #[.int .i64 0] 24) ∧ Q w') :
    Calls Tryz.prog 58 #[.func (.func F) #[] caps] w fun e w' => e = .returned (.int .i64 c) ∧ ∃ w1, Q w1 ∧ w1.heap[w.heap.size]? = some (.cells #[.int .i64 0] 24) ∧ w' = w1.setCell ⟨w.heap.size, 0, none⟩ (.int .i64 c) := by
  have HF := Lib.hid hF
  clear hF
  have hmf : ∀ (fn : Fn) (first cap : Array Value) (w : World), (Instr.makeFunc fn first cap).run Tryz.prog w = .ok (.func fn first cap) w := fun _ _ _ _ => rfl
  go_enter_defers Tryz.func58, Tryz.ntmps58
  go_wp2_with fail
  refine HF.out.mono ?_
  rintro e w1 ⟨rfl, h1, hq⟩
  have HQ := Lib.hid (And.intro hq h1)
  clear hq h1
  go_wp2_with fail
  refine leaves_cons (f := 113) (args := #[.pointer (some ⟨w.heap.size, 0, none⟩)]) (by simp) (by simp [go_sem]) ?_
  refine (tries_d_panics w.heap.size c [] _ _ HQ.out.2).mono ?_
  rintro e u' w'' ⟨rfl, rfl, rfl⟩
  have c1 : (w1.setCell ⟨w.heap.size, 0, none⟩ (.int .i64 c)).cell? ⟨w.heap.size, 0, none⟩ = some (.int .i64 c) := blk_cell (blk_set_same HQ.out.2 0 _) 0
  simp [Leaves, settle, results, Tryz.results58, go_sem, *]
  exact ⟨w1, HQ.out.1, HQ.out.2, rfl⟩

end Go.Proofs.YthbjcihdlhkboaaGreatDoor

namespace Go.Proofs.YthbjcihdlhkboaaGreatDoor
set_option linter.unusedSimpArgs false
set_option linter.unusedVariables false
open Go.RowKit

theorem blk_set5 {w : World} {b : Nat} {x0 x1 x2 x3 x4 : Value} {T : TypeId} (h : w.heap[b]? = some (.cells #[x0, x1, x2, x3, x4] T)) (y0 y1 y2 y3 y4 : Value) :
    (((((w.setCell ⟨b, 0, none⟩ y0).setCell ⟨b, 1, none⟩ y1).setCell ⟨b, 2, none⟩ y2).setCell ⟨b, 3, none⟩ y3).setCell ⟨b, 4, none⟩ y4).heap[b]? = some (.cells #[y0, y1, y2, y3, y4] T) :=
  blk_set_same (blk_set_same (blk_set_same (blk_set_same (blk_set_same h 0 _) 1 _) 2 _) 3 _) 4 _
end Go.Proofs.YthbjcihdlhkboaaGreatDoor

namespace Go.Proofs.YthbjcihdlhkboaaGreatDoor
set_option linter.unusedSimpArgs false
set_option linter.unusedVariables false
open Go.RowKit Go.Maps Go.Shelf Go.Lib

/-- A slice of texts in memory, for reading alone. -/
structure Strs (w : World) (v : Value) (ts : List ByteArray) : Prop where
  form : ∃ A cap, v = .slice A ts.length cap ∧ (0 < ts.length → ∃ b off, A = some ⟨b, off, none⟩ ∧ b < w.heap.size ∧ ∀ j, j < ts.length → w.cell? ⟨b, off + j, none⟩ = some (.string (ts.getD j ByteArray.empty)))
  len : ts.length ≤ 9223372036854775807

theorem Strs.below {w w' : World} {v : Value} {ts : List ByteArray} (h : Strs w v ts) (hb : Below w.heap.size w w') : Strs w' v ts := by
  obtain ⟨⟨A, cap, hv, hf⟩, hl⟩ := h
  refine ⟨⟨A, cap, hv, fun h0 => ?_⟩, hl⟩
  obtain ⟨b, off, hA, hlt, hc⟩ := hf h0
  exact ⟨b, off, hA, Nat.lt_of_lt_of_le hlt hb.size, fun j hj => (hb.cell hlt).trans (hc j hj)⟩

end Go.Proofs.YthbjcihdlhkboaaGreatDoor

namespace Go.Proofs.YthbjcihdlhkboaaGreatDoor
set_option linter.unusedSimpArgs false
set_option linter.unusedVariables false
open Go.RowKit Go.Shelf Go.Lib

theorem size_mk (l : List UInt8) : (⟨l.toArray⟩ : ByteArray).size = l.length := rfl
theorem size_list (s : ByteArray) : s.data.toList.length = s.size := Array.length_toList

theorem encodeRune_len (z : Int) : (Lib.encodeRune z).length ≤ 4 := by
  unfold Lib.encodeRune Lib.encodeRuneZ
  rw [List.length_map]
  repeat' split
  all_goals simp

theorem mapGoD_len (f : Int → Int) : ∀ (n : Nat) (l : List UInt8), (Lib.mapGoD f n l).length ≤ 4 * n
  | 0, l => by simp [Lib.mapGoD]
  | n + 1, l => by
    unfold Lib.mapGoD
    split
    · simp
    · have ih := mapGoD_len f n (l.drop (Lib.decodeL l).2)
      rw [List.length_append]
      have hh : (if 0 ≤ f (Lib.decodeL l).1 then Lib.encodeRune (f (Lib.decodeL l).1) else []).length ≤ 4 := by
        split
        · exact encodeRune_len _
        · simp
      omega

theorem localS_small (s : ByteArray) : (localS s).1.size ≤ 4 * s.size := by
  have h : (folded s).size ≤ 4 * s.size := by
    show (⟨(Lib.mapD fold s.data.toList).toArray⟩ : ByteArray).size ≤ _
    rw [size_mk, ← size_list s]
    exact mapGoD_len fold _ _
  unfold localS
  split
  · split
    · exact h
    · exact Nat.zero_le _
  · exact Nat.zero_le _

end Go.Proofs.YthbjcihdlhkboaaGreatDoor

namespace Go.Proofs.YthbjcihdlhkboaaGreatDoor
set_option linter.unusedSimpArgs false
set_option linter.unusedVariables false
open Go.RowKit Go.Maps Go.Shelf Go.Lib

theorem Seq.lower {w : World} {B B' n : Nat} {e : TypeId} {sz : Nat} {v : Value} {xs : List Value} (h : Seq w B e sz v n xs) (hB : B' ≤ B) : Seq w B' e sz v n xs := by
  refine ⟨h.1, ?_⟩
  rcases h.2 with hn | ⟨g, off, cap, cur, a, b, c⟩
  · exact .inl hn
  · exact .inr ⟨g, off, cap, cur, a, by omega, c⟩

end Go.Proofs.YthbjcihdlhkboaaGreatDoor

namespace Go.Proofs.YthbjcihdlhkboaaGreatDoor
set_option linter.unusedSimpArgs false
set_option linter.unusedVariables false
open Go.RowKit Go.Maps Go.Shelf Go.Lib

theorem take_snoc {α : Type} {l : List α} {k : Nat} {x : α} (h : l[k]? = some x) : l.take (k + 1) = l.take k ++ [x] := by
  rw [List.take_add_one, h]; rfl
end Go.Proofs.YthbjcihdlhkboaaGreatDoor

namespace Go.Proofs.YthbjcihdlhkboaaGreatDoor
set_option linter.unusedSimpArgs false
set_option linter.unusedVariables false
open Go.RowKit Go.Maps Go.Shelf Go.Lib

theorem Strs.nil (w : World) : Strs w (.slice none 0 0) [] := ⟨⟨none, 0, rfl, fun h => absurd h (by decide)⟩, by decide⟩

end Go.Proofs.YthbjcihdlhkboaaGreatDoor

namespace Go.Proofs.YthbjcihdlhkboaaGreatDoor
set_option linter.unusedSimpArgs false
set_option linter.unusedVariables false
open Go.RowKit Go.Maps Go.Shelf Go.Lib

def cutTo (s : ByteArray) (n : Nat) : ByteArray := if n < s.size then s.extract 0 n else s
theorem cutTo_size (s : ByteArray) (n : Nat) : (cutTo s n).size ≤ n := by
  unfold cutTo
  split
  · simp [ByteArray.size_extract]; omega
  · omega

set_option maxHeartbeats 1000000 in
theorem text_any (s : ByteArray) (n : Nat) (hn : n ≤ 1000000) (w : World) :
    Calls Tryz.prog 22 #[.string s, .int .i64 n] w fun e w' => e = .returned (.string (cutTo s n)) ∧ Below w.heap.size w w' := by
  unfold cutTo
  by_cases h : n < s.size
  · rw [if_pos h]
    have t1 : decide ((n : Int) < (s.size : Int)) = true := by simpa using h
    have t2 : (n : Int) < (s.size : Int) := by omega
    have t3 : (0 : Int) ≤ (n : Int) := by omega
    have t4 : n ≤ s.size := by omega
    go_enter Tryz.func22, Tryz.ntmps22
    go_wp2_with fail
    go_ret
    exact ⟨by simp, Below.refl _ _⟩
  · rw [if_neg h]
    have t1 : decide ((n : Int) < (s.size : Int)) = false := by simpa using h
    have t2 : ¬ (n : Int) < (s.size : Int) := by omega
    go_enter Tryz.func22, Tryz.ntmps22
    go_wp2_with fail
    go_ret
    exact ⟨rfl, Below.refl _ _⟩

/-- Texts as cells. -/
def flatS (l : List ByteArray) : List Value := l.map .string

theorem strs_of_seq {w : World} {B : Nat} {v : Value} {l : List ByteArray} (h : Seq w B 9 1 v l.length (flatS l)) (hl : l.length ≤ 9223372036854775807) : Strs w v l := by
  obtain ⟨A, cap, rfl⟩ := h.shape
  refine ⟨⟨A, cap, rfl, fun h0 => ?_⟩, hl⟩
  obtain ⟨g, off, cap', hv, _, hlt, _⟩ := h.form h0
  obtain ⟨rfl, rfl⟩ : A = some ⟨g, off, none⟩ ∧ cap = cap' := by simpa using hv
  refine ⟨g, off, rfl, hlt, fun j hj => ?_⟩
  rw [h.cell j (by omega)]
  simp [flatS, List.getElem?_eq_getElem hj, List.getD_eq_getElem?_getD]

theorem strInfo : (Tryz.prog.info? 9).map (fun i => (i.zero, i.size, i.bytes)) = some (some (.string ⟨#[]⟩), 1, 16) := by kernel_rfl

end Go.Proofs.YthbjcihdlhkboaaGreatDoor

namespace Go.Proofs.YthbjcihdlhkboaaGreatDoor
set_option linter.unusedSimpArgs false
set_option linter.unusedVariables false
open Go.RowKit Go.Maps Go.Shelf Go.Lib

def cutAll (l : List ByteArray) (most long : Nat) : List ByteArray := (l.take most).map (fun t => cutTo t long)
theorem cutAll_length (l : List ByteArray) (most long : Nat) : (cutAll l most long).length = min most l.length := by simp [cutAll]
theorem cutAll_size {l : List ByteArray} {most long : Nat} {t : ByteArray} (h : t ∈ cutAll l most long) : t.size ≤ long := by
  obtain ⟨u, _, rfl⟩ := List.mem_map.1 h
  exact cutTo_size u long
theorem cutAll_snoc {l : List ByteArray} {k long : Nat} {t : ByteArray} (h : l[k]? = some t) : cutAll l (k + 1) long = cutAll l k long ++ [cutTo t long] := by
  unfold cutAll
  rw [take_snoc h, List.map_append]
  rfl
theorem cutAll_end {l : List ByteArray} {k most long : Nat} (h : k = min most l.length) : cutAll l k long = cutAll l most long := by
  unfold cutAll
  subst h
  congr 1
  rw [← List.take_take, List.take_length]
theorem flatS_one {l : List ByteArray} {u : Value} (h : u ∈ flatS l) : u.oneCell' = true := by
  obtain ⟨t, _, rfl⟩ := List.mem_map.1 h
  rfl
theorem flatS_add (l : List ByteArray) (t : ByteArray) : flatS (l ++ [t]) = flatS l ++ [.string t] := by simp [flatS]
theorem flatS_len (l : List ByteArray) : (flatS l).length = l.length := by simp [flatS]

set_option maxRecDepth 100000 in
set_option maxHeartbeats 4000000 in
theorem texts_any (w : World) (v : Value) (l : List ByteArray) (hg : Strs w v l) (most long : Nat) (hm : most ≤ 1000) (hl : long ≤ 1000) :
    Calls Tryz.prog 23 #[v, .int .i64 most, .int .i64 long] w fun e w' => ∃ A cap, e = .returned (.slice A (cutAll l most long).length cap) ∧ Below w.heap.size w w' ∧
      Seq w' w.heap.size 9 1 (.slice A (cutAll l most long).length cap) (cutAll l most long).length (flatS (cutAll l most long)) := by
  obtain ⟨A, cap, hv⟩ : ∃ A cap, v = .slice A l.length cap := let ⟨⟨A, cap, h, _⟩, _⟩ := hg; ⟨A, cap, h⟩
  subst hv
  have HG := Lib.hid hg
  have HM := Lib.hid (And.intro hm hl)
  clear hg hm hl
  go_enter Tryz.func23, Tryz.ntmps23
  go_wp2_with fail
  go_loopg [7, 8] (min most l.length) (fun g s7 s8 wx => ∃ k : Nat, k ≤ min most l.length ∧ g = min most l.length - k ∧ s8 = .int .i64 k ∧ Below w.heap.size w wx ∧ Seq wx w.heap.size 9 1 s7 k (flatS (cutAll l k long)))
  case atStart => exact ⟨0, by omega, rfl, rfl, Below.refl _ _, Seq.nil _ _ _ _⟩
  case round =>
    obtain ⟨k, hk, hgk, rfl, hbx, hseq⟩ := hrel
    obtain ⟨A7, c7, rfl⟩ := hseq.shape
    have HX := Lib.hid hbx
    have HS := Lib.hid hseq
    have HK := Lib.hid (And.intro hk hgk)
    clear hbx hseq hgk hk
    by_cases hlt : k < min most l.length
    · have t1 : decide ((k : Int) < (l.length : Int)) = true := by simp; omega
      have t3 : decide ((k : Int) < (most : Int)) = true := by simp; omega
      have hkt : k < l.length := by omega
      obtain ⟨t, ht⟩ : ∃ t, l[k]? = some t := ⟨_, List.getElem?_eq_getElem hkt⟩
      obtain ⟨b, off, rfl, y⟩ : ∃ b off, A = some ⟨b, off, none⟩ ∧ wr.cell? ⟨b, off + k, none⟩ = some (.string t) := by
        obtain ⟨⟨A', cap', hv, hf⟩, _⟩ := HG.out
        obtain ⟨b, off, hA, hlb, hc⟩ := hf (by omega)
        obtain ⟨rfl, rfl⟩ : A = A' ∧ cap = cap' := by simpa using hv
        refine ⟨b, off, hA, (HX.out.cell hlb).trans ((hc k hkt).trans ?_)⟩
        rw [List.getD_eq_getElem?_getD, ht]; rfl
      have t2 : (k : Int) < (l.length : Int) := by omega
      have hw : IntKind.i64.wrap ((k : Int) + 1) = (k : Int) + 1 := IntWalk.i64_in _ (by have := HM.out.1; omega)
      have HTT := Lib.hid ht
      clear ht
      obtain ⟨i0, hi, hz0, hz1, hz2⟩ := info_parts strInfo
      go_wp2_with fail
      refine (text_any t long (by have := HM.out.2; omega) _).mono ?_
      rintro e w3 ⟨rfl, hb3⟩
      have HS2 := (HS.out.below hb3 (fun k hk => (HS.out.lt k hk).2)).alloc (.cells #[.string (cutTo t long)] 9)
      have hbb := (HX.out.trans (hb3.mono HX.out.size)).alloc (by have := HX.out.size; have := hb3.size; omega) (.cells #[.string (cutTo t long)] 9)
      have HBB := Lib.hid hbb
      clear hbb
      go_wp2_with (at_builtin; refine wpList_append_seq _ rfl _ _ 32 rfl w.heap.size 9 i0 (.string ⟨#[]⟩) 1 16 Tryz.underlying32 hi hz0 hz1 hz2 rfl _ k (flatS (cutAll l k long)) rfl HS2 ⟨w3.heap.size, 0, none⟩ 1 1 [.string (cutTo t long)] rfl rfl ?c1 ?c2 (by decide) ?c3 ?c4 ?c5 ?_)
      case c1 => intro j u hu; match j, hu with | 0, hu => simpa [go_sem, Addr.add] using hu
      case c2 => intro u hu; simp at hu; subst hu; rfl
      case c3 => have := HM.out.1; unfold maxLen; omega
      case c4 => have := HM.out.1; omega
      case c5 => have := HX.out.size; have := hb3.size; simp; omega
      intro v' w5 hseq' hgrow hat
      have hb5 := HBB.out.grown hgrow HBB.out.size (fun j hj => (HS2.lt j hj).1)
      have HS5 := Lib.hid hseq'
      have HB5 := Lib.hid hb5
      clear HS2 hseq' hgrow hat hb5
      go_wp2_with fail
      go_roundg (min most l.length - (k + 1))
      case measure => have := HK.out.2; omega
      case rel => exact ⟨k + 1, by omega, rfl, by go_num, HB5.out, by rw [cutAll_snoc HTT.out, flatS_add]; exact HS5.out⟩
    · have e : k = min most l.length := by have := HK.out.1; omega
      have el : (cutAll l most long).length = k := by rw [cutAll_length]; omega
      have hfin : Seq wr w.heap.size 9 1 (.slice A7 k c7) k (flatS (cutAll l most long)) := by
        have := HS.out
        rw [cutAll_end e] at this
        exact this
      have HF := Lib.hid hfin
      have HEL := Lib.hid el
      clear hfin el
      by_cases hkt : k < l.length
      · have t1 : decide ((k : Int) < (l.length : Int)) = true := by simpa using hkt
        have t3 : decide ((k : Int) < (most : Int)) = false := by simp; omega
        clear e
        go_wp2_with fail
        go_ret
        exact ⟨A7, c7, by rw [HEL.out]; rfl, HX.out, by rw [HEL.out]; exact HF.out⟩
      · have t1 : decide ((k : Int) < (l.length : Int)) = false := by simpa using hkt
        clear e
        go_wp2_with fail
        go_ret
        exact ⟨A7, c7, by rw [HEL.out]; rfl, HX.out, by rw [HEL.out]; exact HF.out⟩

end Go.Proofs.YthbjcihdlhkboaaGreatDoor

namespace Go.Proofs.YthbjcihdlhkboaaGreatDoor
set_option linter.unusedSimpArgs false
set_option linter.unusedVariables false
open Go.RowKit Go.Maps Go.Shelf Go.Lib

/-- An entry of a roster. -/
structure Ent where
  contact : ByteArray
  kept : Bool
  name : ByteArray
  groups : List ByteArray
  half : Half
abbrev Ent.val (e : Ent) (g : Value) : Value := .agg #[.string e.contact, .bool e.kept, .string e.name, g, .int .i64 e.half.o, .int .u64 e.half.n, .int .i64 e.half.i, .int .u64 e.half.m]
def Ent.new (s : ByteArray) : Ent := ⟨s, false, ⟨#[]⟩, [], ⟨0, 0, 0, 0⟩⟩

/-- The groups of an entry, in memory that is the roster's own. -/
def Grp (w : World) (B : Nat) (v : Value) (gs : List ByteArray) : Prop :=
  (gs = [] ∧ ∃ A c, v = .slice A 0 c) ∨ (gs ≠ [] ∧ Seq w B 9 1 v gs.length (flatS gs))

theorem Grp.nil (w : World) (B : Nat) : Grp w B (.slice none 0 0) [] := .inl ⟨rfl, none, 0, rfl⟩
theorem Grp.strs {w : World} {B : Nat} {v : Value} {gs : List ByteArray} (h : Grp w B v gs) : Strs w v gs := by
  rcases h with ⟨rfl, A, c, rfl⟩ | ⟨_, h⟩
  · exact ⟨⟨A, c, rfl, fun h => absurd h (by decide)⟩, by decide⟩
  · exact strs_of_seq h (by have := h.len_le; unfold maxLen at this; omega)
theorem Grp.kept {w w' : World} {B : Nat} {v : Value} {gs : List ByteArray} (h : Grp w B v gs) (hk : ∀ k cur, w.heap[k]? = some (.cells cur 9 (0, 0)) → B ≤ k → w'.heap[k]? = w.heap[k]?) : Grp w' B v gs := by
  rcases h with h | ⟨hn, h⟩
  · exact .inl h
  · exact .inr ⟨hn, h.kept fun k hb => by obtain ⟨cur, hc⟩ := h.block k hb; exact hk k cur hc (h.lt k hb).1⟩
theorem Grp.lower {w : World} {B B' : Nat} {v : Value} {gs : List ByteArray} (h : Grp w B v gs) (hB : B' ≤ B) : Grp w B' v gs := by
  rcases h with h | ⟨hn, h⟩
  · exact .inl h
  · exact .inr ⟨hn, Seq.lower h hB⟩
theorem Grp.shape {w : World} {B : Nat} {v : Value} {gs : List ByteArray} (h : Grp w B v gs) : ∃ A c, v = .slice A gs.length c := by
  rcases h with ⟨rfl, h⟩ | ⟨_, h⟩
  · exact h
  · exact h.shape

/-- A roster: the bounds, the counts, the entries. -/
structure RS where
  items : Int
  asks : Int
  ver : Int
  next : Int
  list : List (ByteArray × Ent)

def RS.get (R : RS) (s : ByteArray) : Option Ent := (R.list.find? (fun p => decide (p.1 = s))).map (·.2)
def RS.entry (R : RS) (s : ByteArray) : Ent := (R.get s).getD (Ent.new s)
def RS.put (R : RS) (s : ByteArray) (e : Ent) : RS := { R with list := (s, e) :: R.list.filter (fun p => !decide (p.1 = s)) }
def RS.del (R : RS) (s : ByteArray) : RS := { R with list := R.list.filter (fun p => !decide (p.1 = s)) }
def RS.kept (R : RS) : Nat := (R.list.filter (fun p => p.2.kept)).length
def RS.wasKept (R : RS) (s : ByteArray) : Bool := ((R.get s).map (·.kept)).getD false
/-- An entry is laid; it is gone, if there is nothing of it. -/
def RS.set (R : RS) (e : Ent) : RS := if e.kept || !(e.half.i == 0) then R.put e.contact e else R.del e.contact

theorem RS.get_put_same (R : RS) (s : ByteArray) (e : Ent) : (R.put s e).get s = some e := by simp [RS.get, RS.put]
theorem RS.get_put_other (R : RS) {s t : ByteArray} (e : Ent) (hne : t ≠ s) : (R.put s e).get t = R.get t := by
  unfold RS.get RS.put
  simp only
  rw [List.find?_cons_of_neg (by simpa using fun e => hne e.symm)]
  congr 1
  rw [List.find?_filter]
  congr 1
  funext p
  by_cases h : p.1 = t
  · simp [h, hne]
  · simp [h]
theorem RS.get_del_same (R : RS) (s : ByteArray) : (R.del s).get s = none := by
  unfold RS.get RS.del
  simp only [Option.map_eq_none_iff, List.find?_eq_none]
  intro p hp
  have := (List.mem_filter.1 hp).2
  simpa using this
theorem RS.get_del_other (R : RS) {s t : ByteArray} (hne : t ≠ s) : (R.del s).get t = R.get t := by
  unfold RS.get RS.del
  simp only
  congr 1
  rw [List.find?_filter]
  congr 1
  funext p
  by_cases h : p.1 = t
  · simp [h, hne]
  · simp [h]
theorem RS.get_isSome (R : RS) (s : ByteArray) : (R.get s).isSome = R.list.any (fun p => decide (p.1 = s)) := by
  unfold RS.get
  rw [Option.isSome_map]
  rw [Bool.eq_iff_iff, List.find?_isSome, List.any_eq_true]

theorem kept_cons (p : ByteArray × Ent) (ps : List (ByteArray × Ent)) : ((p :: ps).filter (fun p => p.2.kept)).length = (ps.filter (fun p => p.2.kept)).length + (if p.2.kept then 1 else 0) := by
  by_cases h : p.2.kept = true <;> simp [List.filter_cons, h]

/-- How many of a list satisfy, and how many of those that are another's. -/
theorem filter_kept {l : List (ByteArray × Ent)} (h : (l.map (·.1)).Nodup) (s : ByteArray) :
    ((l.filter (fun p => !decide (p.1 = s))).filter (fun p => p.2.kept)).length + (if ((l.find? (fun p => decide (p.1 = s))).map (fun p => p.2.kept)).getD false then 1 else 0) = (l.filter (fun p => p.2.kept)).length ∧
    (l.filter (fun p => !decide (p.1 = s))).length + (if l.any (fun p => decide (p.1 = s)) then 1 else 0) = l.length := by
  induction l with
  | nil => exact ⟨rfl, rfl⟩
  | cons p ps ih =>
    simp only [List.map_cons, List.nodup_cons] at h
    obtain ⟨ih1, ih2⟩ := ih h.2
    by_cases e : p.1 = s
    · have hn : ∀ q ∈ ps, decide (q.1 = s) = false := by
        intro q hq
        simp only [decide_eq_false_iff_not]
        intro e2
        exact h.1 (List.mem_map.2 ⟨q, hq, e2.trans e.symm⟩)
      have hf : ps.filter (fun p => !decide (p.1 = s)) = ps := List.filter_eq_self.2 fun q hq => by simp only [hn q hq, Bool.not_false]
      have hd : decide (p.1 = s) = true := by simpa using e
      have hfind : (p :: ps).find? (fun p => decide (p.1 = s)) = some p := by rw [List.find?_cons]; simp [e]
      rw [List.filter_cons_of_neg (by simp [e]), hf, hfind, List.any_cons, hd]
      simp only [Option.map_some, Option.getD_some, Bool.true_or, if_true, List.length_cons]
      refine ⟨?_, trivial⟩
      rw [kept_cons]
    · have ed : decide (p.1 = s) = false := by simpa using e
      rw [List.filter_cons_of_pos (by simp [e]), List.any_cons, ed, Bool.false_or, List.length_cons, List.length_cons, List.find?_cons_of_neg (by simp [e])]
      refine ⟨?_, by omega⟩
      rw [kept_cons, kept_cons]
      generalize (if p.2.kept = true then 1 else 0) = q
      omega

theorem RS.put_count {R : RS} (h : (R.list.map (·.1)).Nodup) (s : ByteArray) (e : Ent) :
    (R.put s e).kept + (if R.wasKept s then 1 else 0) = R.kept + (if e.kept then 1 else 0) ∧ (R.put s e).list.length = (if (R.get s).isSome then R.list.length else R.list.length + 1) := by
  have hf := filter_kept h s
  have hw : R.wasKept s = ((R.list.find? (fun p => decide (p.1 = s))).map (fun p => p.2.kept)).getD false := by
    unfold RS.wasKept RS.get
    rw [Option.map_map]
    rfl
  rw [hw, RS.get_isSome]
  have e1 : (R.put s e).kept = ((R.list.filter (fun p => !decide (p.1 = s))).filter (fun p => p.2.kept)).length + (if e.kept then 1 else 0) := by
    unfold RS.kept RS.put
    simp only
    rw [kept_cons]
  have e2 : (R.put s e).list.length = (R.list.filter (fun p => !decide (p.1 = s))).length + 1 := rfl
  rw [e1, e2]
  have e3 : R.kept = (R.list.filter (fun p => p.2.kept)).length := rfl
  rw [e3]
  generalize (if e.kept = true then 1 else 0) = q
  obtain ⟨f1, f2⟩ := hf
  refine ⟨by omega, ?_⟩
  cases hb : R.list.any (fun p => decide (p.1 = s))
  · rw [hb] at f2; simp only [Bool.false_eq_true, if_false] at f2 ⊢; omega
  · rw [hb] at f2; simp only [if_true] at f2 ⊢; omega

theorem RS.del_count {R : RS} (h : (R.list.map (·.1)).Nodup) (s : ByteArray) :
    (R.del s).kept + (if R.wasKept s then 1 else 0) = R.kept ∧ (R.del s).list.length + (if (R.get s).isSome then 1 else 0) = R.list.length := by
  have hf := filter_kept h s
  have hw : R.wasKept s = ((R.list.find? (fun p => decide (p.1 = s))).map (fun p => p.2.kept)).getD false := by
    unfold RS.wasKept RS.get
    rw [Option.map_map]
    rfl
  rw [hw, RS.get_isSome]
  exact hf

theorem RS.nodup_put {R : RS} (h : (R.list.map (·.1)).Nodup) (s : ByteArray) (e : Ent) : ((R.put s e).list.map (·.1)).Nodup := by
  show (s :: (R.list.filter _).map (·.1)).Nodup
  rw [List.nodup_cons]
  refine ⟨fun hm => ?_, (List.Sublist.map _ List.filter_sublist).nodup h⟩
  obtain ⟨p, hp, e⟩ := List.mem_map.1 hm
  have := (List.mem_filter.1 hp).2
  simp [e] at this
theorem RS.nodup_del {R : RS} (h : (R.list.map (·.1)).Nodup) (s : ByteArray) : ((R.del s).list.map (·.1)).Nodup := (List.Sublist.map _ List.filter_sublist).nodup h
theorem RS.kept_le (R : RS) : R.kept ≤ R.list.length := List.length_filter_le _ _
theorem RS.wasKept_le {R : RS} (s : ByteArray) : (if R.wasKept s then 1 else 0) ≤ R.kept := by
  cases hb : R.wasKept s
  · simp
  · simp only [if_true]
    unfold RS.wasKept RS.get at hb
    cases hf : R.list.find? (fun p => decide (p.1 = s)) with
    | none => rw [hf] at hb; simp at hb
    | some p =>
      rw [hf] at hb
      exact List.length_pos_of_mem (List.mem_filter.2 ⟨List.mem_of_find?_eq_some hf, by simpa using hb⟩)

/-- A roster as it lies in memory; kc: what its field 'kept' holds. -/
structure RoAtK (w : World) (B rb mb n : Nat) (D : DataW Value) (R : RS) (kc : Int) : Prop where
  cells : w.heap[rb]? = some (.cells #[.int .i64 R.items, .int .i64 R.asks, .int .u64 R.ver, .int .u64 R.next, .map (some mb), .int .i64 kc] 111)
  own : w.ownsMap Tryz.prog 9 tokR mb n D
  ok : HasOk D
  size : Maps.size D = R.list.length
  lists : ∀ s, (mget D s = none ∧ R.get s = none) ∨ ∃ g e, mget D s = some (e.val g) ∧ R.get s = some e ∧ (e.contact = s ∧ e.groups.length ≤ 1000000) ∧ Grp w B g e.groups
  lo : B ≤ rb ∧ B ≤ mb
  apart : (R.list.map (·.1)).Nodup
abbrev RoAt (w : World) (B rb mb n : Nat) (D : DataW Value) (R : RS) : Prop := RoAtK w B rb mb n D R (R.kept : Nat)

section
variable {w w' : World} {B rb mb n : Nat} {D : DataW Value} {R : RS} {kc : Int}

theorem RoAtK.ne (h : RoAtK w B rb mb n D R kc) : rb ≠ mb := by
  intro e
  obtain ⟨es, clock, hb, _⟩ := h.own
  rw [← e, h.cells] at hb
  cases hb
theorem RoAtK.lt (h : RoAtK w B rb mb n D R kc) : rb < w.heap.size ∧ mb < w.heap.size := by
  obtain ⟨es, clock, hb, _⟩ := h.own
  exact ⟨blk_lt h.cells, blk_lt hb⟩
theorem RoAtK.isSome (h : RoAtK w B rb mb n D R kc) (s : ByteArray) : (mget D s).isSome = (R.get s).isSome := by
  rcases h.lists s with ⟨a, b⟩ | ⟨g, e, a, b, _⟩ <;> rw [a, b] <;> rfl

/-- A roster stands where its blocks and those of texts stand. -/
theorem RoAtK.keep (h : RoAtK w B rb mb n D R kc) (h1 : w'.heap[rb]? = w.heap[rb]?) (h2 : w'.heap[mb]? = w.heap[mb]?) (h3 : ∀ k cur, w.heap[k]? = some (.cells cur 9 (0, 0)) → B ≤ k → w'.heap[k]? = w.heap[k]?)
    (hs : w.heap.size ≤ w'.heap.size) (ho : w'.os = w.os) (ht : w'.tape = w.tape) (hp : w'.output = w.output) : RoAtK w' B rb mb n D R kc where
  cells := h1.trans h.cells
  own := by
    obtain ⟨es, clock, hb, rest⟩ := h.own
    exact ⟨es, clock, h2.trans hb, rest⟩
  ok := h.ok
  size := h.size
  lists := fun s => by
    rcases h.lists s with hn | ⟨g, e, a, b, c, d⟩
    · exact .inl hn
    · exact .inr ⟨g, e, a, b, c, d.kept h3⟩
  lo := h.lo
  apart := h.apart
theorem RoAtK.below (h : RoAtK w B rb mb n D R kc) (hb : Below w.heap.size w w') : RoAtK w' B rb mb n D R kc :=
  h.keep (hb.block _ h.lt.1) (hb.block _ h.lt.2) (fun k cur hk _ => hb.block k (blk_lt hk)) hb.size hb.os hb.tape hb.output
theorem RoAtK.upd (h : RoAtK w B rb mb n D R kc) {C : Nat} {ks : Nat → Prop} (hu : Upd C ks w w') (hC : w.heap.size ≤ C) (h1 : ¬ ks rb) (h2 : ¬ ks mb) (h3 : ∀ k cur, w.heap[k]? = some (.cells cur 9 (0, 0)) → B ≤ k → ¬ ks k) : RoAtK w' B rb mb n D R kc :=
  h.keep (hu.block _ (by have := h.lt.1; omega) h1) (hu.block _ (by have := h.lt.2; omega) h2) (fun k cur hk hB => hu.block k (by have := blk_lt hk; omega) (h3 k cur hk hB)) hu.size hu.os hu.tape hu.output

/-- A field of whole numbers is written. -/
theorem RoAtK.field (h : RoAtK w B rb mb n D R kc) (j : Nat) (v : Value) {R' : RS} {kc' : Int} (hl : R'.list = R.list)
    (hc : (#[.int .i64 R.items, .int .i64 R.asks, .int .u64 R.ver, .int .u64 R.next, .map (some mb), .int .i64 kc] : Array Value).setIfInBounds j v = #[.int .i64 R'.items, .int .i64 R'.asks, .int .u64 R'.ver, .int .u64 R'.next, .map (some mb), .int .i64 kc']) :
    RoAtK (w.setCell ⟨rb, j, none⟩ v) B rb mb n D R' kc' where
  cells := by rw [← hc]; exact blk_set_same h.cells j v
  own := by
    obtain ⟨es, clock, hb, rest⟩ := h.own
    exact ⟨es, clock, (Below.heap_setCell w ⟨rb, j, none⟩ v mb (fun e => h.ne e.symm)).trans hb, rest⟩
  ok := h.ok
  size := by rw [hl]; exact h.size
  lists := fun s => by
    have hg : R'.get s = R.get s := by unfold RS.get; rw [hl]
    rw [hg]
    rcases h.lists s with hn | ⟨g, e, a, b, c, d⟩
    · exact .inl hn
    · exact .inr ⟨g, e, a, b, c, d.kept fun k cur hk _ => Below.heap_setCell w ⟨rb, j, none⟩ v k (by
        rintro rfl
        have h0 := h.cells
        rw [hk] at h0
        simp at h0)⟩
  lo := h.lo
  apart := by rw [hl]; exact h.apart

theorem str_ne_map {k : Nat} {cur : Array Value} (h : RoAtK w B rb mb n D R kc) (hk : w.heap[k]? = some (.cells cur 9 (0, 0))) : k ≠ mb := by
  intro e
  obtain ⟨es, clock, hb, _⟩ := h.own
  rw [← e, hk] at hb
  cases hb

/-- The roster behind a store into its map. -/
theorem RoAtK.store {n' : Nat} (h : RoAtK w B rb mb n D R kc) {s : ByteArray} {e : Ent} {g : Value} {kc' : Int} (hs : e.contact = s ∧ e.groups.length ≤ 1000000) (hg : Grp w B g e.groups)
    (hown : w'.ownsMap Tryz.prog 9 tokR mb n' (D.put (keyL s) (.held (e.val g)))) (hgr : w.grownBy w' (some mb)) : RoAtK w' B rb mb n' (D.put (keyL s) (.held (e.val g))) (R.put s e) kc := by
  have hk : ∀ k cur, w.heap[k]? = some (.cells cur 9 (0, 0)) → B ≤ k → w'.heap[k]? = w.heap[k]? :=
    fun k cur hc _ => hgr.block k (blk_lt hc) (by simpa using str_ne_map h hc)
  exact {
    cells := (hgr.block rb h.lt.1 (by simpa using h.ne)).trans h.cells
    own := hown
    ok := h.ok.put s _
    size := by rw [size_put (h.own.tidy (string_keyed Tryz.underlying9)), h.ok.2 s, h.isSome, (RS.put_count h.apart s e).2, h.size]
    lists := fun t => by
      by_cases e1 : t = s
      · subst e1
        exact .inr ⟨g, e, mget_put_same h.ok.1 t _, RS.get_put_same R t e, hs, hg.kept hk⟩
      · rw [mget_put_other e1, RS.get_put_other R e e1]
        rcases h.lists t with hn | ⟨u, q, a, b, c, d⟩
        · exact .inl hn
        · exact .inr ⟨u, q, a, b, c, d.kept hk⟩
    lo := h.lo
    apart := RS.nodup_put h.apart s e }

/-- The roster behind a deletion from its map. -/
theorem RoAtK.drop (h : RoAtK w B rb mb n D R kc) {s : ByteArray}
    (hown : w'.ownsMap Tryz.prog 9 tokR mb n (D.del (keyL s))) (hgr : w.grownBy w' (some mb)) : RoAtK w' B rb mb n (D.del (keyL s)) (R.del s) kc := by
  have hk : ∀ k cur, w.heap[k]? = some (.cells cur 9 (0, 0)) → B ≤ k → w'.heap[k]? = w.heap[k]? :=
    fun k cur hc _ => hgr.block k (blk_lt hc) (by simpa using str_ne_map h hc)
  exact {
    cells := (hgr.block rb h.lt.1 (by simpa using h.ne)).trans h.cells
    own := hown
    ok := h.ok.del s
    size := by
      have e1 := (RS.del_count h.apart s).2
      have e2 := size_del (k := keyL s) (h.own.tidy (string_keyed Tryz.underlying9))
      rw [h.ok.2 s, h.isSome, h.size] at e2
      cases hb : (R.get s).isSome <;> rw [hb] at e1 e2 <;> simp at e1 e2 <;> omega
    lists := fun t => by
      by_cases e1 : t = s
      · subst e1
        exact .inl ⟨mget_del_same t, RS.get_del_same R t⟩
      · rw [mget_del_other e1, RS.get_del_other R e1]
        rcases h.lists t with hn | ⟨u, q, a, b, c, d⟩
        · exact .inl hn
        · exact .inr ⟨u, q, a, b, c, d.kept hk⟩
    lo := h.lo
    apart := RS.nodup_del h.apart s }
end

end Go.Proofs.YthbjcihdlhkboaaGreatDoor
