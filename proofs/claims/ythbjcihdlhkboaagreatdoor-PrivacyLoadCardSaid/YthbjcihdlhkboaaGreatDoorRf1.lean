/- The reference's small functions: what each reckons. -/
import Derived.Test.YthbjcihdlhkboaaGreatDoorRu1
import Derived.Lib.CutLaws
namespace Go.Proofs.YthbjcihdlhkboaaGreatDoor
set_option linter.unusedSimpArgs false
set_option linter.unusedVariables false
open Go.RowKit Go.Maps Go.Shelf Go.Lib

theorem list_at (s : ByteArray) (k : Nat) (h : k < s.size) : s.data.toList[k]? = some s[k] := by
  rw [List.getElem?_eq_getElem (by rw [size_list]; exact h), Array.getElem_toList]
  rfl
theorem occ_one (l : List UInt8) (j : Nat) : Lib.occAt l [32] j = (l[j]? == some 32) := by
  unfold Lib.occAt
  cases h : l[j]? with
  | none => rw [List.drop_eq_nil_of_le (List.getElem?_eq_none_iff.1 h)]; rfl
  | some b =>
    have hj := (List.getElem?_eq_some_iff.1 h).1
    rw [List.drop_eq_getElem_cons hj, (List.getElem?_eq_some_iff.1 h).2]
    show (32 == b && true) = (b == 32)
    rw [Bool.and_true]
    exact Bool.eq_iff_iff.2 ⟨fun h => by rw [beq_iff_eq] at h ⊢; exact h.symm, fun h => by rw [beq_iff_eq] at h ⊢; exact h.symm⟩

theorem cutB_hitS (s : ByteArray) (k : Nat) (h : k < s.size) (hk : s[k] = 32) (hno : ∀ j (h : j < s.size), j < k → s[j] ≠ 32) :
    cutB s = (s.extract 0 k, s.extract (k + 1) s.size, true) := by
  have hi : Lib.indexB s ⟨#[32]⟩ = (k : Int) := by
    refine Lib.index_first (by rw [size_list]; omega) ?_ ?_
    · show Lib.occAt _ [32] k = true
      rw [occ_one, list_at s k h, hk]; rfl
    · intro j hj
      show Lib.occAt _ [32] j = false
      rw [occ_one, list_at s j (by omega)]
      simpa using hno j (by omega) hj
  obtain ⟨e1, e2, e3⟩ := Lib.cutB_hit s ⟨#[32]⟩ k hi
  show (_, _, _) = _
  rw [show (⟨(Lib.cut s.data.toList [32]).1.toArray⟩ : ByteArray) = _ from e1, show (⟨(Lib.cut s.data.toList [32]).2.1.toArray⟩ : ByteArray) = _ from e2, show (Lib.cut s.data.toList [32]).2.2 = _ from e3]
  rfl
theorem cutB_missS (s : ByteArray) (hno : ∀ j (h : j < s.size), s[j] ≠ 32) : cutB s = (s, ⟨#[]⟩, false) := by
  have hi : Lib.indexB s ⟨#[32]⟩ = -1 := by
    refine Lib.index_none ?_
    intro j hj
    show Lib.occAt _ [32] j = false
    rw [occ_one]
    by_cases h : j < s.size
    · rw [list_at s j h]
      simpa using hno j h
    · rw [List.getElem?_eq_none (by rw [size_list]; omega)]; rfl
  obtain ⟨e1, e2, e3⟩ := Lib.cutB_miss s ⟨#[32]⟩ hi
  show (_, _, _) = _
  rw [show (⟨(Lib.cut s.data.toList [32]).1.toArray⟩ : ByteArray) = _ from e1, show (⟨(Lib.cut s.data.toList [32]).2.1.toArray⟩ : ByteArray) = _ from e2, show (Lib.cut s.data.toList [32]).2.2 = _ from e3]
  rfl

set_option maxRecDepth 100000 in
set_option maxHeartbeats 4000000 in
theorem refpiece_any (s : ByteArray) (hs : s.size ≤ 9223372036854775807) (w : World) :
    Calls Tryz.prog 129 #[.string s] w fun e w' => e = .returned (.tuple #[.string (cutB s).1, .string (cutB s).2.1, .bool (cutB s).2.2]) ∧ Below w.heap.size w w' := by
  have HS := Lib.hid hs
  clear hs
  go_enter Tryz.func129, Tryz.ntmps129
  go_wp2_with fail
  go_loopg [5] s.size (fun g s5 wx => ∃ k : Nat, k ≤ s.size ∧ g = s.size - k ∧ s5 = .int .i64 k ∧ Below w.heap.size w wx ∧ ∀ j (h : j < s.size), j < k → s[j] ≠ 32)
  case atStart => exact ⟨0, by omega, rfl, rfl, Below.refl _ _, fun j _ hj => absurd hj (by omega)⟩
  case round =>
    obtain ⟨k, hk, hgk, rfl, hbx, hno⟩ := hrel
    have HX := Lib.hid hbx
    have HNO := Lib.hid hno
    have HK := Lib.hid (And.intro hk hgk)
    clear hbx hno hgk hk
    by_cases hlt : k < s.size
    · have t1 : decide ((k : Int) < (s.size : Int)) = true := by simpa using hlt
      have t2 : (k : Int) < (s.size : Int) := by omega
      have t3 : (0 : Int) ≤ (k : Int) := by omega
      have t4 : (k : Int) ≤ (s.size : Int) := by omega
      have t5 : k + 1 ≤ s.size := by omega
      have t6 : (0 : Int) ≤ (k : Int) + 1 := by omega
      have t7 : k ≤ s.size := by omega
      have hw : IntKind.i64.wrap ((k : Int) + 1) = (k : Int) + 1 := IntWalk.i64_in _ (by have := HS.out; omega)
      have e1 : ((k : Int) + 1).toNat = k + 1 := by omega
      by_cases h32 : s[k] = 32
      · have g1 : ((s[k].toNat : Int) == 32) = true := by rw [h32]; rfl
        have hc := Lib.hid (cutB_hitS s k hlt h32 HNO.out)
        clear h32
        go_wp2_with fail
        go_region
        all_goals
          go_wp2_with fail
          simp [bodyPost, results, Tryz.results129]
          rw [hc.out]
          first | exact ⟨⟨rfl, rfl, rfl⟩, HX.out⟩ | exact ⟨⟨rfl, rfl, rfl⟩, HX.out.drew⟩
      · have g1 : ((s[k].toNat : Int) == 32) = false := by
          have : s[k].toNat ≠ 32 := fun h => h32 (UInt8.toNat_inj.1 h)
          simp; omega
        go_wp2_with fail
        go_roundg (s.size - (k + 1))
        case measure => have := HK.out.2; omega
        case rel =>
          refine ⟨k + 1, by omega, rfl, by go_num, HX.out, fun j h hj => ?_⟩
          by_cases e : j = k
          · subst e; exact h32
          · exact HNO.out j h (by omega)
    · have t1 : decide ((k : Int) < (s.size : Int)) = false := by simpa using hlt
      have hc := Lib.hid (cutB_missS s (fun j h => HNO.out j h (by omega)))
      go_wp2_with fail
      simp [bodyPost, results, Tryz.results129]
      rw [hc.out]
      exact ⟨⟨rfl, rfl, rfl⟩, HX.out⟩

/-- Is it a subscription's word? -/
def subB (s : ByteArray) : Bool := s.toList == [110, 111, 110, 101] || (s.toList == [116, 111] || (s.toList == [102, 114, 111, 109] || s.toList == [98, 111, 116, 104]))

set_option maxHeartbeats 4000000 in
theorem refisSub_any (s : ByteArray) (w : World) :
    Calls Tryz.prog 130 #[.string s] w fun e w' => e = .returned (.bool (subB s)) ∧ Below w.heap.size w w' := by
  unfold subB
  cases h1 : (s.toList == [110, 111, 110, 101]) <;> cases h2 : (s.toList == [116, 111]) <;> cases h3 : (s.toList == [102, 114, 111, 109]) <;> cases h4 : (s.toList == [98, 111, 116, 104])
  all_goals
    go_enter Tryz.func130, Tryz.ntmps130
    go_wp2_with fail
    go_ret
    exact ⟨by simp, Below.refl _ _⟩

set_option maxHeartbeats 4000000 in
theorem refword_any (s : ByteArray) (valid : Bool) (w : World) (hv : s.size ≤ 64 → ∀ W, Calls Tryz.prog 128 #[.string s] W fun e w' => e = .returned (.bool valid) ∧ Below W.heap.size W w') :
    Calls Tryz.prog 85 #[.string s] w fun e w' => e = .returned (.int .i64 (wordE s valid)) ∧ Below w.heap.size w w' := by
  unfold wordE
  by_cases h1 : 64 < s.size
  · rw [if_pos h1]
    have h2 : (64 : Int) < (s.size : Int) := by omega
    clear hv
    go_enter Tryz.func85, Tryz.ntmps85
    go_wp2_with fail
    go_ret
    exact ⟨rfl, Below.refl _ _⟩
  · rw [if_neg h1]
    have h2 : ¬ (64 : Int) < (s.size : Int) := by omega
    have HV := Lib.hid (hv (by omega))
    clear hv
    cases h3 : s.toList == []
    · cases valid
      all_goals
        go_enter Tryz.func85, Tryz.ntmps85
        go_wp2_with fail
        refine (HV.out _).mono ?_
        rintro e w1 ⟨rfl, hb1⟩
        go_wp2_with fail
        go_ret
        exact ⟨by simp, hb1⟩
    · clear HV
      go_enter Tryz.func85, Tryz.ntmps85
      go_wp2_with fail
      go_ret
      exact ⟨by simp, Below.refl _ _⟩
end Go.Proofs.YthbjcihdlhkboaaGreatDoor
