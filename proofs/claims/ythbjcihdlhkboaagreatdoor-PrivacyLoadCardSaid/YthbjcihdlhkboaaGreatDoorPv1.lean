/- The small functions of the package of privacy lists: what each reckons, and with what it gives up. -/
import Derived.Test.YthbjcihdlhkboaaGreatDoorNm1
import Derived.Defers
import Derived.Recover
namespace Go.Proofs.YthbjcihdlhkboaaGreatDoor
set_option linter.unusedSimpArgs false
set_option linter.unusedVariables false
open Go.RowKit

def failsV (c : Int) : Value := .iface 177 (.agg #[.int .i64 c])

set_option maxHeartbeats 400000 in
theorem pcheck_ok (w : World) :
    Calls Tryz.prog 159 #[.int .i64 0] w fun e w' => e = .returned (.tuple #[]) ∧ w' = w := by
  go_enter Tryz.func159, Tryz.ntmps159
  go_wp2
  go_end0
  exact ⟨rfl, rfl⟩

set_option maxHeartbeats 400000 in
theorem pcheck_no (c : Int) (hc : c ≠ 0) (w : World) :
    Calls Tryz.prog 159 #[.int .i64 c] w fun e w' => e = .panicked [{ v := failsV c, recovered := false }] ∧ w' = w := by
  have h1 : (c == 0) = false := by simpa using hc
  have h2 : (c != 0) = true := by simpa using hc
  go_enter Tryz.func159, Tryz.ntmps159
  go_wp2
  exact ⟨rfl, rfl, rfl⟩

set_option maxHeartbeats 400000 in
theorem pmust_yes (w : World) :
    Calls Tryz.prog 134 #[.bool true] w fun e w' => e = .returned (.tuple #[]) ∧ w' = w := by
  go_enter Tryz.func134, Tryz.ntmps134
  go_wp2
  go_end0
  exact ⟨rfl, rfl⟩

set_option maxHeartbeats 400000 in
theorem pmust_no (w : World) :
    Calls Tryz.prog 134 #[.bool false] w fun e w' => e = .panicked [{ v := failsV 2, recovered := false }] ∧ w' = w := by
  go_enter Tryz.func134, Tryz.ntmps134
  go_wp2_with fail
  refine (pcheck_no 2 (by decide) _).mono ?_
  rintro e w' ⟨rfl, rfl⟩
  go_wp2_with fail
  exact ⟨rfl, rfl, rfl⟩


/-- What a call of some function hands back in every later world. -/
def Gives (w : World) (f : Nat) (args : Array Value) (v : Value) : Prop :=
  ∀ W, Below w.heap.size w W → Calls Tryz.prog f args W fun e w' => e = .returned v ∧ Below W.heap.size W w'
theorem Gives.later {w w' : World} {f : Nat} {args : Array Value} {v : Value} (h : Gives w f args v) (hb : Below w.heap.size w w') : Gives w' f args v :=
  fun W hW => h W (hb.trans (hW.mono hb.size))
theorem Gives.here {w : World} {f : Nat} {args : Array Value} {v : Value} (h : Gives w f args v) : Calls Tryz.prog f args w fun e w' => e = .returned v ∧ Below w.heap.size w w' := h w (Below.refl _ _)

/-- The error of the name of a list, of a group. -/
def wordE (s : ByteArray) (valid : Bool) : Int := if 64 < s.size then 5 else if s.toList == [] || !valid then 4 else 0

set_option maxHeartbeats 1000000 in
theorem word_any (s : ByteArray) (valid : Bool) (w : World) (hv : Gives w 131 #[.string s] (.bool valid)) :
    Calls Tryz.prog 88 #[.string s] w fun e w' => e = .returned (.int .i64 (wordE s valid)) ∧ Below w.heap.size w w' := by
  have HV := Lib.hid hv.here
  clear hv
  unfold wordE
  by_cases h1 : 64 < s.size
  · rw [if_pos h1]
    have h2 : (64 : Int) < (s.size : Int) := by omega
    clear HV
    go_enter Tryz.func88, Tryz.ntmps88
    go_wp2_with fail
    go_ret
    exact ⟨rfl, Below.refl _ _⟩
  · rw [if_neg h1]
    have h2 : ¬ (64 : Int) < (s.size : Int) := by omega
    cases h3 : s.toList == []
    · cases valid
      · go_enter Tryz.func88, Tryz.ntmps88
        go_wp2_with fail
        refine HV.out.mono ?_
        rintro e w1 ⟨rfl, hb1⟩
        go_wp2_with fail
        go_ret
        exact ⟨by simp, hb1⟩
      · go_enter Tryz.func88, Tryz.ntmps88
        go_wp2_with fail
        refine HV.out.mono ?_
        rintro e w1 ⟨rfl, hb1⟩
        go_wp2_with fail
        go_ret
        exact ⟨by simp, hb1⟩
    · clear HV
      go_enter Tryz.func88, Tryz.ntmps88
      go_wp2_with fail
      go_ret
      exact ⟨by simp, Below.refl _ _⟩

/-- What a rule may have behind what it goes by; or with what its reader gives up. -/
def valueS (by_ s : ByteArray) (some valid : Bool) (lv : ByteArray) (le : Int) : Except Int ByteArray :=
  if some == (by_.toList == [97, 108, 108]) then .error 2
  else if by_.toList == [97, 108, 108] then .ok s
  else if by_.toList == [106, 105, 100] then (if le = 0 then .ok lv else .error le)
  else if by_.toList == [103, 114, 111, 117, 112] then (if wordE s valid = 0 then .ok s else .error (wordE s valid))
  else if by_.toList == [115, 117, 98] && (s.toList == [110, 111, 110, 101] || s.toList == [116, 111] || s.toList == [102, 114, 111, 109] || s.toList == [98, 111, 116, 104]) then .ok s
  else .error 2

def Outcome (r : Except Int ByteArray) (e : Ending) : Prop :=
  match r with
  | .ok v => e = .returned (.string v)
  | .error c => e = .panicked [{ v := failsV c, recovered := false }]
set_option maxHeartbeats 1000000 in
theorem value_bad_true (by_ s : ByteArray) (some valid : Bool) (lv : ByteArray) (le : Int) (w : World) (hv : Gives w 131 #[.string s] (.bool valid)) (hl : Gives w 110 #[.string s] (.tuple #[.string lv, .int .i64 le]))
    (ha : (by_.toList == [97, 108, 108]) = true)
    (hs : some = true) :
    Calls Tryz.prog 135 #[.string by_, .string s, .bool some] w fun e w' => Outcome (.error 2) e ∧ Below w.heap.size w w' := by
  have HV := Lib.hid hv
  have HL := Lib.hid hl
  clear hv hl
  subst hs
  go_enter Tryz.func135, Tryz.ntmps135
  go_wp2_with fail
  refine (pmust_no _).mono ?_
  rintro e w' ⟨rfl, rfl⟩
  go_wp2_with fail
  exact ⟨rfl, rfl, Below.refl _ _⟩

set_option maxHeartbeats 1000000 in
theorem value_bad_false (by_ s : ByteArray) (some valid : Bool) (lv : ByteArray) (le : Int) (w : World) (hv : Gives w 131 #[.string s] (.bool valid)) (hl : Gives w 110 #[.string s] (.tuple #[.string lv, .int .i64 le]))
    (ha : (by_.toList == [97, 108, 108]) = false)
    (hs : some = false) :
    Calls Tryz.prog 135 #[.string by_, .string s, .bool some] w fun e w' => Outcome (.error 2) e ∧ Below w.heap.size w w' := by
  have HV := Lib.hid hv
  have HL := Lib.hid hl
  clear hv hl
  subst hs
  go_enter Tryz.func135, Tryz.ntmps135
  go_wp2_with fail
  refine (pmust_no _).mono ?_
  rintro e w' ⟨rfl, rfl⟩
  go_wp2_with fail
  exact ⟨rfl, rfl, Below.refl _ _⟩

set_option maxHeartbeats 1000000 in
theorem value_all (by_ s : ByteArray) (some valid : Bool) (lv : ByteArray) (le : Int) (w : World) (hv : Gives w 131 #[.string s] (.bool valid)) (hl : Gives w 110 #[.string s] (.tuple #[.string lv, .int .i64 le]))
    (ha : (by_.toList == [97, 108, 108]) = true)
    (hs : some = false) :
    Calls Tryz.prog 135 #[.string by_, .string s, .bool some] w fun e w' => Outcome (.ok s) e ∧ Below w.heap.size w w' := by
  have HV := Lib.hid hv
  have HL := Lib.hid hl
  clear hv hl
  subst hs
  go_enter Tryz.func135, Tryz.ntmps135
  go_wp2_with fail
  refine (pmust_yes _).mono ?_
  rintro e w' ⟨rfl, rfl⟩
  go_wp2_with fail
  go_ret
  exact ⟨rfl, Below.refl _ _⟩

set_option maxHeartbeats 1000000 in
theorem value_jid_ok (by_ s : ByteArray) (some valid : Bool) (lv : ByteArray) (le : Int) (w : World) (hv : Gives w 131 #[.string s] (.bool valid)) (hl : Gives w 110 #[.string s] (.tuple #[.string lv, .int .i64 le]))
    (ha : (by_.toList == [97, 108, 108]) = false)
    (hs : some = true)
    (hj : (by_.toList == [106, 105, 100]) = true)
    (hle : le = 0) :
    Calls Tryz.prog 135 #[.string by_, .string s, .bool some] w fun e w' => Outcome (.ok lv) e ∧ Below w.heap.size w w' := by
  have HV := Lib.hid hv
  have HL := Lib.hid hl
  clear hv hl
  subst hs
  subst hle
  go_enter Tryz.func135, Tryz.ntmps135
  go_wp2_with fail
  refine (pmust_yes _).mono ?_
  rintro e w' ⟨rfl, rfl⟩
  go_wp2_with fail
  refine HL.out.here.mono ?_
  rintro e w1 ⟨rfl, hb1⟩
  go_wp2_with fail
  refine (pcheck_ok _).mono ?_
  rintro e w' ⟨rfl, rfl⟩
  go_wp2_with fail
  go_ret
  exact ⟨rfl, hb1⟩

set_option maxHeartbeats 1000000 in
theorem value_jid_no (by_ s : ByteArray) (some valid : Bool) (lv : ByteArray) (le : Int) (w : World) (hv : Gives w 131 #[.string s] (.bool valid)) (hl : Gives w 110 #[.string s] (.tuple #[.string lv, .int .i64 le]))
    (ha : (by_.toList == [97, 108, 108]) = false)
    (hs : some = true)
    (hj : (by_.toList == [106, 105, 100]) = true)
    (hle : le ≠ 0) :
    Calls Tryz.prog 135 #[.string by_, .string s, .bool some] w fun e w' => Outcome (.error le) e ∧ Below w.heap.size w w' := by
  have HV := Lib.hid hv
  have HL := Lib.hid hl
  clear hv hl
  subst hs
  go_enter Tryz.func135, Tryz.ntmps135
  go_wp2_with fail
  refine (pmust_yes _).mono ?_
  rintro e w' ⟨rfl, rfl⟩
  go_wp2_with fail
  refine HL.out.here.mono ?_
  rintro e w1 ⟨rfl, hb1⟩
  go_wp2_with fail
  refine (pcheck_no le hle _).mono ?_
  rintro e w' ⟨rfl, rfl⟩
  go_wp2_with fail
  exact ⟨rfl, rfl, hb1⟩

set_option maxHeartbeats 1000000 in
theorem value_group_ok (by_ s : ByteArray) (some valid : Bool) (lv : ByteArray) (le : Int) (w : World) (hv : Gives w 131 #[.string s] (.bool valid)) (hl : Gives w 110 #[.string s] (.tuple #[.string lv, .int .i64 le]))
    (ha : (by_.toList == [97, 108, 108]) = false)
    (hs : some = true)
    (hj : (by_.toList == [106, 105, 100]) = false)
    (hg : (by_.toList == [103, 114, 111, 117, 112]) = true)
    (hle : wordE s valid = 0) :
    Calls Tryz.prog 135 #[.string by_, .string s, .bool some] w fun e w' => Outcome (.ok s) e ∧ Below w.heap.size w w' := by
  have HV := Lib.hid hv
  have HL := Lib.hid hl
  clear hv hl
  subst hs
  go_enter Tryz.func135, Tryz.ntmps135
  go_wp2_with fail
  refine (pmust_yes _).mono ?_
  rintro e w' ⟨rfl, rfl⟩
  go_wp2_with fail
  refine (word_any s valid _ HV.out).mono ?_
  rintro e w1 ⟨rfl, hb1⟩
  go_wp2_with fail
  refine (pcheck_ok _).mono ?_
  rintro e w' ⟨rfl, rfl⟩
  go_wp2_with fail
  go_ret
  exact ⟨rfl, hb1⟩

set_option maxHeartbeats 1000000 in
theorem value_group_no (by_ s : ByteArray) (some valid : Bool) (lv : ByteArray) (le : Int) (w : World) (hv : Gives w 131 #[.string s] (.bool valid)) (hl : Gives w 110 #[.string s] (.tuple #[.string lv, .int .i64 le]))
    (ha : (by_.toList == [97, 108, 108]) = false)
    (hs : some = true)
    (hj : (by_.toList == [106, 105, 100]) = false)
    (hg : (by_.toList == [103, 114, 111, 117, 112]) = true)
    (hle : wordE s valid ≠ 0) :
    Calls Tryz.prog 135 #[.string by_, .string s, .bool some] w fun e w' => Outcome (.error (wordE s valid)) e ∧ Below w.heap.size w w' := by
  have HV := Lib.hid hv
  have HL := Lib.hid hl
  clear hv hl
  subst hs
  go_enter Tryz.func135, Tryz.ntmps135
  go_wp2_with fail
  refine (pmust_yes _).mono ?_
  rintro e w' ⟨rfl, rfl⟩
  go_wp2_with fail
  refine (word_any s valid _ HV.out).mono ?_
  rintro e w1 ⟨rfl, hb1⟩
  go_wp2_with fail
  refine (pcheck_no _ hle _).mono ?_
  rintro e w' ⟨rfl, rfl⟩
  go_wp2_with fail
  exact ⟨rfl, rfl, hb1⟩

set_option maxHeartbeats 1000000 in
theorem value_other (by_ s : ByteArray) (some valid : Bool) (lv : ByteArray) (le : Int) (w : World) (hv : Gives w 131 #[.string s] (.bool valid)) (hl : Gives w 110 #[.string s] (.tuple #[.string lv, .int .i64 le]))
    (ha : (by_.toList == [97, 108, 108]) = false)
    (hs : some = true)
    (hj : (by_.toList == [106, 105, 100]) = false)
    (hg : (by_.toList == [103, 114, 111, 117, 112]) = false)
    (hbb : (by_.toList == [115, 117, 98]) = false) :
    Calls Tryz.prog 135 #[.string by_, .string s, .bool some] w fun e w' => Outcome (.error 2) e ∧ Below w.heap.size w w' := by
  have HV := Lib.hid hv
  have HL := Lib.hid hl
  clear hv hl
  subst hs
  go_enter Tryz.func135, Tryz.ntmps135
  go_wp2_with fail
  refine (pmust_yes _).mono ?_
  rintro e w' ⟨rfl, rfl⟩
  go_wp2_with fail
  refine (pmust_no _).mono ?_
  rintro e w' ⟨rfl, rfl⟩
  go_wp2_with fail
  exact ⟨rfl, rfl, Below.refl _ _⟩

set_option maxHeartbeats 1000000 in
theorem value_sub_0 (by_ s : ByteArray) (some valid : Bool) (lv : ByteArray) (le : Int) (w : World) (hv : Gives w 131 #[.string s] (.bool valid)) (hl : Gives w 110 #[.string s] (.tuple #[.string lv, .int .i64 le]))
    (ha : (by_.toList == [97, 108, 108]) = false)
    (hs : some = true)
    (hj : (by_.toList == [106, 105, 100]) = false)
    (hg : (by_.toList == [103, 114, 111, 117, 112]) = false)
    (hbb : (by_.toList == [115, 117, 98]) = true)
    (hs0 : (s.toList == [110, 111, 110, 101]) = true) :
    Calls Tryz.prog 135 #[.string by_, .string s, .bool some] w fun e w' => Outcome (.ok s) e ∧ Below w.heap.size w w' := by
  have HV := Lib.hid hv
  have HL := Lib.hid hl
  clear hv hl
  subst hs
  go_enter Tryz.func135, Tryz.ntmps135
  go_wp2_with fail
  refine (pmust_yes _).mono ?_
  rintro e w' ⟨rfl, rfl⟩
  go_wp2_with fail
  refine (pmust_yes _).mono ?_
  rintro e w' ⟨rfl, rfl⟩
  go_wp2_with fail
  go_ret
  exact ⟨rfl, Below.refl _ _⟩

set_option maxHeartbeats 1000000 in
theorem value_sub_1 (by_ s : ByteArray) (some valid : Bool) (lv : ByteArray) (le : Int) (w : World) (hv : Gives w 131 #[.string s] (.bool valid)) (hl : Gives w 110 #[.string s] (.tuple #[.string lv, .int .i64 le]))
    (ha : (by_.toList == [97, 108, 108]) = false)
    (hs : some = true)
    (hj : (by_.toList == [106, 105, 100]) = false)
    (hg : (by_.toList == [103, 114, 111, 117, 112]) = false)
    (hbb : (by_.toList == [115, 117, 98]) = true)
    (hs0 : (s.toList == [110, 111, 110, 101]) = false)
    (hs1 : (s.toList == [116, 111]) = true) :
    Calls Tryz.prog 135 #[.string by_, .string s, .bool some] w fun e w' => Outcome (.ok s) e ∧ Below w.heap.size w w' := by
  have HV := Lib.hid hv
  have HL := Lib.hid hl
  clear hv hl
  subst hs
  go_enter Tryz.func135, Tryz.ntmps135
  go_wp2_with fail
  refine (pmust_yes _).mono ?_
  rintro e w' ⟨rfl, rfl⟩
  go_wp2_with fail
  refine (pmust_yes _).mono ?_
  rintro e w' ⟨rfl, rfl⟩
  go_wp2_with fail
  go_ret
  exact ⟨rfl, Below.refl _ _⟩

set_option maxHeartbeats 1000000 in
theorem value_sub_2 (by_ s : ByteArray) (some valid : Bool) (lv : ByteArray) (le : Int) (w : World) (hv : Gives w 131 #[.string s] (.bool valid)) (hl : Gives w 110 #[.string s] (.tuple #[.string lv, .int .i64 le]))
    (ha : (by_.toList == [97, 108, 108]) = false)
    (hs : some = true)
    (hj : (by_.toList == [106, 105, 100]) = false)
    (hg : (by_.toList == [103, 114, 111, 117, 112]) = false)
    (hbb : (by_.toList == [115, 117, 98]) = true)
    (hs0 : (s.toList == [110, 111, 110, 101]) = false)
    (hs1 : (s.toList == [116, 111]) = false)
    (hs2 : (s.toList == [102, 114, 111, 109]) = true) :
    Calls Tryz.prog 135 #[.string by_, .string s, .bool some] w fun e w' => Outcome (.ok s) e ∧ Below w.heap.size w w' := by
  have HV := Lib.hid hv
  have HL := Lib.hid hl
  clear hv hl
  subst hs
  go_enter Tryz.func135, Tryz.ntmps135
  go_wp2_with fail
  refine (pmust_yes _).mono ?_
  rintro e w' ⟨rfl, rfl⟩
  go_wp2_with fail
  refine (pmust_yes _).mono ?_
  rintro e w' ⟨rfl, rfl⟩
  go_wp2_with fail
  go_ret
  exact ⟨rfl, Below.refl _ _⟩

set_option maxHeartbeats 1000000 in
theorem value_sub_3 (by_ s : ByteArray) (some valid : Bool) (lv : ByteArray) (le : Int) (w : World) (hv : Gives w 131 #[.string s] (.bool valid)) (hl : Gives w 110 #[.string s] (.tuple #[.string lv, .int .i64 le]))
    (ha : (by_.toList == [97, 108, 108]) = false)
    (hs : some = true)
    (hj : (by_.toList == [106, 105, 100]) = false)
    (hg : (by_.toList == [103, 114, 111, 117, 112]) = false)
    (hbb : (by_.toList == [115, 117, 98]) = true)
    (hs0 : (s.toList == [110, 111, 110, 101]) = false)
    (hs1 : (s.toList == [116, 111]) = false)
    (hs2 : (s.toList == [102, 114, 111, 109]) = false)
    (hs3 : (s.toList == [98, 111, 116, 104]) = true) :
    Calls Tryz.prog 135 #[.string by_, .string s, .bool some] w fun e w' => Outcome (.ok s) e ∧ Below w.heap.size w w' := by
  have HV := Lib.hid hv
  have HL := Lib.hid hl
  clear hv hl
  subst hs
  go_enter Tryz.func135, Tryz.ntmps135
  go_wp2_with fail
  refine (pmust_yes _).mono ?_
  rintro e w' ⟨rfl, rfl⟩
  go_wp2_with fail
  refine (pmust_yes _).mono ?_
  rintro e w' ⟨rfl, rfl⟩
  go_wp2_with fail
  go_ret
  exact ⟨rfl, Below.refl _ _⟩

set_option maxHeartbeats 1000000 in
theorem value_sub_4 (by_ s : ByteArray) (some valid : Bool) (lv : ByteArray) (le : Int) (w : World) (hv : Gives w 131 #[.string s] (.bool valid)) (hl : Gives w 110 #[.string s] (.tuple #[.string lv, .int .i64 le]))
    (ha : (by_.toList == [97, 108, 108]) = false)
    (hs : some = true)
    (hj : (by_.toList == [106, 105, 100]) = false)
    (hg : (by_.toList == [103, 114, 111, 117, 112]) = false)
    (hbb : (by_.toList == [115, 117, 98]) = true)
    (hs0 : (s.toList == [110, 111, 110, 101]) = false)
    (hs1 : (s.toList == [116, 111]) = false)
    (hs2 : (s.toList == [102, 114, 111, 109]) = false)
    (hs3 : (s.toList == [98, 111, 116, 104]) = false) :
    Calls Tryz.prog 135 #[.string by_, .string s, .bool some] w fun e w' => Outcome (.error 2) e ∧ Below w.heap.size w w' := by
  have HV := Lib.hid hv
  have HL := Lib.hid hl
  clear hv hl
  subst hs
  go_enter Tryz.func135, Tryz.ntmps135
  go_wp2_with fail
  refine (pmust_yes _).mono ?_
  rintro e w' ⟨rfl, rfl⟩
  go_wp2_with fail
  refine (pmust_no _).mono ?_
  rintro e w' ⟨rfl, rfl⟩
  go_wp2_with fail
  exact ⟨rfl, rfl, Below.refl _ _⟩

theorem value_any (by_ s : ByteArray) (some valid : Bool) (lv : ByteArray) (le : Int) (w : World) (hv : Gives w 131 #[.string s] (.bool valid)) (hl : Gives w 110 #[.string s] (.tuple #[.string lv, .int .i64 le])) :
    Calls Tryz.prog 135 #[.string by_, .string s, .bool some] w fun e w' => Outcome (valueS by_ s some valid lv le) e ∧ Below w.heap.size w w' := by
  unfold valueS
  cases ha : (by_.toList == [97, 108, 108]) <;> cases hs : some
  · exact value_bad_false by_ s _ valid lv le w hv hl ha rfl
  · cases hj : (by_.toList == [106, 105, 100])
    · cases hg : (by_.toList == [103, 114, 111, 117, 112])
      · cases hbb : (by_.toList == [115, 117, 98])
        · exact value_other by_ s _ valid lv le w hv hl ha rfl hj hg hbb
        · cases h0 : (s.toList == [110, 111, 110, 101])
          · cases h1 : (s.toList == [116, 111])
            · cases h2 : (s.toList == [102, 114, 111, 109])
              · cases h3 : (s.toList == [98, 111, 116, 104])
                · exact value_sub_4 by_ s _ valid lv le w hv hl ha rfl hj hg hbb h0 h1 h2 h3
                · exact value_sub_3 by_ s _ valid lv le w hv hl ha rfl hj hg hbb h0 h1 h2 h3
              · exact value_sub_2 by_ s _ valid lv le w hv hl ha rfl hj hg hbb h0 h1 h2
            · exact value_sub_1 by_ s _ valid lv le w hv hl ha rfl hj hg hbb h0 h1
          · exact value_sub_0 by_ s _ valid lv le w hv hl ha rfl hj hg hbb h0
      · by_cases hle : wordE s valid = 0
        · simpa [hle] using value_group_ok by_ s _ valid lv le w hv hl ha rfl hj hg hle
        · simpa [hle] using value_group_no by_ s _ valid lv le w hv hl ha rfl hj hg hle
    · by_cases hle : le = 0
      · simpa [hle] using value_jid_ok by_ s _ valid lv le w hv hl ha rfl hj hle
      · simpa [hle] using value_jid_no by_ s _ valid lv le w hv hl ha rfl hj hle
  · exact value_all by_ s _ valid lv le w hv hl ha rfl
  · exact value_bad_true by_ s _ valid lv le w hv hl ha rfl

end Go.Proofs.YthbjcihdlhkboaaGreatDoor
