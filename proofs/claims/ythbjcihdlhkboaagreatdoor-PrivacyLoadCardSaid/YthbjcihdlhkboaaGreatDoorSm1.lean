/- The same texts? -/
import Derived.Test.YthbjcihdlhkboaaGreatDoorTx2
import Derived.Test.YthbjcihdlhkboaaGreatDoorSrt
import Derived.Deep.LoopGhost
import Derived.Deep.DeepCutAuto
import Derived.IntWalk
import Derived.Deep.QuietTactic
import Derived.BigQuiet
namespace Go.Proofs.YthbjcihdlhkboaaGreatDoor
set_option linter.unusedSimpArgs false
set_option linter.unusedVariables false
open Go.RowKit Go.Maps Go.Shelf Go.Lib

theorem below_drewNs (w : World) (n : Nat) : Below w.heap.size w (w.drewN n) := ⟨rfl, rfl, rfl, Nat.le_refl _, fun _ _ => rfl⟩
theorem Strs.at {w : World} {A : Option Addr} {n c : Nat} {l : List ByteArray} (h : Strs w (.slice A n c) l) {k : Nat} (hk : k < l.length) : ∃ b off, A = some ⟨b, off, none⟩ ∧ n = l.length ∧ b < w.heap.size ∧ w.cell? ⟨b, off + k, none⟩ = some (.string l[k]) := by
  obtain ⟨⟨A', cap', hv, hf⟩, _⟩ := h
  obtain ⟨b, off, hA, hlb, hc⟩ := hf (by omega)
  obtain ⟨rfl, rfl, rfl⟩ : A = A' ∧ n = l.length ∧ c = cap' := by simpa using hv
  refine ⟨b, off, hA, rfl, hlb, (hc k hk).trans ?_⟩
  rw [List.getD_eq_getElem?_getD, List.getElem?_eq_getElem hk]; rfl

theorem toList_inj {a b : ByteArray} (h : a.toList = b.toList) : a = b := by
  rw [Lib.toList_data, Lib.toList_data] at h
  exact Srt.data_inj h
theorem toList_beq (a b : ByteArray) : (a.toList == b.toList) = decide (a = b) := by
  rw [Bool.eq_iff_iff]
  simp only [beq_iff_eq, decide_eq_true_eq]
  exact ⟨toList_inj, fun h => by rw [h]⟩

set_option maxRecDepth 100000 in
set_option maxHeartbeats 4000000 in
theorem same_any (v1 v2 : Value) (l1 l2 : List ByteArray) (w : World) (h1 : Strs w v1 l1) (h2 : Strs w v2 l2) :
    Calls Tryz.prog 38 #[v1, v2] w fun e w' => e = .returned (.bool (decide (l1 = l2))) ∧ Below w.heap.size w w' := by
  obtain ⟨A1, c1, rfl⟩ : ∃ A c, v1 = .slice A l1.length c := let ⟨⟨A, cap, h, _⟩, _⟩ := h1; ⟨A, cap, h⟩
  obtain ⟨A2, c2, rfl⟩ : ∃ A c, v2 = .slice A l2.length c := let ⟨⟨A, cap, h, _⟩, _⟩ := h2; ⟨A, cap, h⟩
  have hlen := h1.2
  have HH := Lib.hid (And.intro h1 h2)
  clear h1 h2
  by_cases hl : l1.length = l2.length
  · have t1 : ((l1.length : Int) == (l2.length : Int)) = true := by simp [hl]
    have t2 : ((l1.length : Int) != (l2.length : Int)) = false := by simp [hl]
    have HL := Lib.hid hl
    obtain ⟨r, hr⟩ : ∃ r : Bool, decide (l1 = l2) = r := ⟨_, rfl⟩
    rw [hr]
    have HR := Lib.hid hr
    clear hr hl
    go_enter Tryz.func38, Tryz.ntmps38
    go_wp2_with fail
    go_loopg [5] l1.length (fun g s5 wx => ∃ k : Nat, k ≤ l1.length ∧ g = l1.length - k ∧ s5 = .int .i64 k ∧ l1.take k = l2.take k ∧ Below w.heap.size w wx)
    case atStart => exact ⟨0, Nat.zero_le _, rfl, rfl, rfl, Below.refl _ _⟩
    case round =>
      obtain ⟨k, hk, hgk, rfl, htk, hbx⟩ := hrel
      have HX := Lib.hid hbx
      have HK := Lib.hid (And.intro hk (And.intro hgk htk))
      clear hbx hk hgk htk
      by_cases hlt : k < l1.length
      · have t3 : (k : Int) < (l1.length : Int) := by omega
        have hlt2 : k < l2.length := by have := HL.out; omega
        have t4 : (k : Int) < (l2.length : Int) := by omega
        obtain ⟨b1, o1, rfl, _, _, y1⟩ := (HH.out.1.below HX.out).at hlt
        obtain ⟨b2, o2, rfl, _, _, y2⟩ := (HH.out.2.below HX.out).at hlt2
        have hw : IntKind.i64.wrap ((k : Int) + 1) = (k : Int) + 1 := IntWalk.i64_in _ (by omega)
        have e1 : l1.take (k + 1) = l1.take k ++ [l1[k]] := List.take_succ_eq_append_getElem hlt
        have e2 : l2.take (k + 1) = l2.take k ++ [l2[k]] := List.take_succ_eq_append_getElem hlt2
        have t0 : (0 : Int) ≤ (k : Int) := by omega
        obtain ⟨x1, hx1⟩ : ∃ x, l1[k] = x := ⟨_, rfl⟩
        obtain ⟨x2, hx2⟩ : ∃ x, l2[k] = x := ⟨_, rfl⟩
        rw [hx1] at y1 e1
        rw [hx2] at y2 e2
        have HE := Lib.hid (And.intro e1 e2)
        have HX2 := Lib.hid (And.intro hx1 hx2)
        clear e1 e2 hx1 hx2
        by_cases hx : x1 = x2
        · subst hx
          go_wp2_with fail
          go_quiet (fail)
          go_wp2_with fail
          go_roundg (l1.length - (k + 1))
          case measure => have := HK.out.2.1; omega
          case rel => exact ⟨k + 1, by omega, rfl, by go_num, by rw [HE.out.1, HE.out.2, HK.out.2.2], HX.out.trans ((below_drewNs _ _).mono HX.out.size)⟩
        · have hne : l1 ≠ l2 := by
            intro e
            subst e
            exact hx (HX2.out.1.symm.trans HX2.out.2)
          have hrf : r = false := by rw [← HR.out]; simp [hne]
          subst hrf
          have t6 : (x1.toList == x2.toList) = false := by rw [toList_beq]; simp [hx]
          have t7 : (x1.toList != x2.toList) = true := by simp only [bne, t6]; rfl
          clear hx hne
          go_wp2_with fail
          go_quiet (fail)
          go_wp2_with fail
          go_ret
          exact ⟨rfl, HX.out.trans ((below_drewNs _ _).mono HX.out.size)⟩
      · have hke : k = l1.length := by have := HK.out.1; omega
        have heq : l1 = l2 := by
          have := HK.out.2.2
          rw [hke, List.take_length, HL.out, List.take_length] at this
          exact this
        have hrf : r = true := by rw [← HR.out]; simp [heq]
        subst hrf
        have t3 : ¬ (k : Int) < (l1.length : Int) := by omega
        clear heq hke
        go_wp2_with fail
        go_ret
        exact ⟨rfl, HX.out⟩
  · have hr : decide (l1 = l2) = false := by simp; intro e; exact hl (by rw [e])
    rw [hr]
    have t1 : ((l1.length : Int) == (l2.length : Int)) = false := by simp; omega
    have t2 : ((l1.length : Int) != (l2.length : Int)) = true := by simp; omega
    clear hr hl
    go_enter Tryz.func38, Tryz.ntmps38
    go_wp2_with fail
    go_ret
    exact ⟨rfl, Below.refl _ _⟩

end Go.Proofs.YthbjcihdlhkboaaGreatDoor
