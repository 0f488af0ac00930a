/- The same texts? The same entry? -/
import Derived.Test.YthbjcihdlhkboaaGreatDoorRi8
import Derived.Deep.QuietTactic
import Derived.BigQuiet
namespace Go.Proofs.YthbjcihdlhkboaaGreatDoor
set_option linter.unusedSimpArgs false
set_option linter.unusedVariables false
open Go.RowKit Go.Maps Go.Shelf Go.Lib

theorem Strs.at {w : World} {A : Option Addr} {n c : Nat} {l : List ByteArray} (h : Strs w (.slice A n c) l) {k : Nat} (hk : k < l.length) : ∃ b off, A = some ⟨b, off, none⟩ ∧ n = l.length ∧ b < w.heap.size ∧ w.cell? ⟨b, off + k, none⟩ = some (.string l[k]) := by
  obtain ⟨⟨A', cap', hv, hf⟩, _⟩ := h
  obtain ⟨b, off, hA, hlb, hc⟩ := hf (by omega)
  obtain ⟨rfl, rfl, rfl⟩ : A = A' ∧ n = l.length ∧ c = cap' := by simpa using hv
  refine ⟨b, off, hA, rfl, hlb, (hc k hk).trans ?_⟩
  rw [List.getD_eq_getElem?_getD, List.getElem?_eq_getElem hk]; rfl

theorem toList_inj {a b : ByteArray} (h : a.toList = b.toList) : a = b := by
  rw [Lib.toList_data, Lib.toList_data] at h
  exact bl_inj h
theorem toList_beq (a b : ByteArray) : (a.toList == b.toList) = decide (a = b) := by
  rw [Bool.eq_iff_iff]
  simp only [beq_iff_eq, decide_eq_true_eq]
  exact ⟨toList_inj, fun h => by rw [h]⟩

set_option maxRecDepth 100000 in
set_option maxHeartbeats 4000000 in
theorem same_any (v1 v2 : Value) (l1 l2 : List ByteArray) (w : World) (h1 : Strs w v1 l1) (h2 : Strs w v2 l2) :
    Calls Tryz.prog 38 #[v1, v2] w fun e w' => e = .returned (.bool (decide (l1 = l2))) ∧ Below w.heap.size w w' := by
  obtain ⟨A1, c1, rfl⟩ : ∃ A c, v1 = .slice A l1.length c := let ⟨⟨A, cap, h, _⟩, _⟩ := h1; ⟨A, cap, h⟩
  obtain ⟨A2, c2, rfl⟩ : ∃ A c, v2 = .slice A l2.length c := let ⟨⟨A, cap, h, _⟩, _⟩ := h2; ⟨A, cap, h⟩
  have hlen := h1.2
  have HH := Lib.hid (And.intro h1 h2)
  clear h1 h2
  by_cases hl : l1.length = l2.length
  · have t1 : ((l1.length : Int) == (l2.length : Int)) = true := by simp [hl]
    have t2 : ((l1.length : Int) != (l2.length : Int)) = false := by simp [hl]
    have HL := Lib.hid hl
    obtain ⟨r, hr⟩ : ∃ r : Bool, decide (l1 = l2) = r := ⟨_, rfl⟩
    rw [hr]
    have HR := Lib.hid hr
    clear hr hl
    go_enter Tryz.func38, Tryz.ntmps38
    go_wp2_with fail
    go_loopg [5] l1.length (fun g s5 wx => ∃ k : Nat, k ≤ l1.length ∧ g = l1.length - k ∧ s5 = .int .i64 k ∧ l1.take k = l2.take k ∧ Below w.heap.size w wx)
    case atStart => exact ⟨0, Nat.zero_le _, rfl, rfl, rfl, Below.refl _ _⟩
    case round =>
      obtain ⟨k, hk, hgk, rfl, htk, hbx⟩ := hrel
      have HX := Lib.hid hbx
      have HK := Lib.hid (And.intro hk (And.intro hgk htk))
      clear hbx hk hgk htk
      by_cases hlt : k < l1.length
      · have t3 : (k : Int) < (l1.length : Int) := by omega
        have hlt2 : k < l2.length := by have := HL.out; omega
        have t4 : (k : Int) < (l2.length : Int) := by omega
        obtain ⟨b1, o1, rfl, _, _, y1⟩ := (HH.out.1.below HX.out).at hlt
        obtain ⟨b2, o2, rfl, _, _, y2⟩ := (HH.out.2.below HX.out).at hlt2
        have hw : IntKind.i64.wrap ((k : Int) + 1) = (k : Int) + 1 := IntWalk.i64_in _ (by omega)
        have e1 : l1.take (k + 1) = l1.take k ++ [l1[k]] := List.take_succ_eq_append_getElem hlt
        have e2 : l2.take (k + 1) = l2.take k ++ [l2[k]] := List.take_succ_eq_append_getElem hlt2
        have t0 : (0 : Int) ≤ (k : Int) := by omega
        obtain ⟨x1, hx1⟩ : ∃ x, l1[k] = x := ⟨_, rfl⟩
        obtain ⟨x2, hx2⟩ : ∃ x, l2[k] = x := ⟨_, rfl⟩
        rw [hx1] at y1 e1
        rw [hx2] at y2 e2
        have HE := Lib.hid (And.intro e1 e2)
        have HX2 := Lib.hid (And.intro hx1 hx2)
        clear e1 e2 hx1 hx2
        by_cases hx : x1 = x2
        · subst hx
          go_wp2_with fail
          go_quiet (fail)
          go_wp2_with fail
          go_roundg (l1.length - (k + 1))
          case measure => have := HK.out.2.1; omega
          case rel => exact ⟨k + 1, by omega, rfl, by go_num, by rw [HE.out.1, HE.out.2, HK.out.2.2], HX.out.trans ((below_drewNg _ _).mono HX.out.size)⟩
        · have hne : l1 ≠ l2 := by
            intro e
            subst e
            exact hx (HX2.out.1.symm.trans HX2.out.2)
          have hrf : r = false := by rw [← HR.out]; simp [hne]
          subst hrf
          have t6 : (x1.toList == x2.toList) = false := by rw [toList_beq]; simp [hx]
          have t7 : (x1.toList != x2.toList) = true := by simp only [bne, t6]; rfl
          clear hx hne
          go_wp2_with fail
          go_quiet (fail)
          go_wp2_with fail
          go_ret
          exact ⟨rfl, HX.out.trans ((below_drewNg _ _).mono HX.out.size)⟩
      · have hke : k = l1.length := by have := HK.out.1; omega
        have heq : l1 = l2 := by
          have := HK.out.2.2
          rw [hke, List.take_length, HL.out, List.take_length] at this
          exact this
        have hrf : r = true := by rw [← HR.out]; simp [heq]
        subst hrf
        have t3 : ¬ (k : Int) < (l1.length : Int) := by omega
        clear heq hke
        go_wp2_with fail
        go_ret
        exact ⟨rfl, HX.out⟩
  · have hr : decide (l1 = l2) = false := by simp; intro e; exact hl (by rw [e])
    rw [hr]
    have t1 : ((l1.length : Int) == (l2.length : Int)) = false := by simp; omega
    have t2 : ((l1.length : Int) != (l2.length : Int)) = true := by simp; omega
    clear hr hl
    go_enter Tryz.func38, Tryz.ntmps38
    go_wp2_with fail
    go_ret
    exact ⟨rfl, Below.refl _ _⟩

/-- The same entry, as the law asks. -/
def sameE (a b : Ent) : Bool := a.contact.toList == b.contact.toList && (a.kept == b.kept && (a.name.toList == b.name.toList && (decide (a.groups = b.groups) && (a.half.o == b.half.o && (a.half.n == b.half.n && (a.half.i == b.half.i && a.half.m == b.half.m))))))
theorem sameE_eq (a b : Ent) : sameE a b = decide (a = b) := by
  obtain ⟨c1, k1, n1, g1, ⟨o1, m1, i1, p1⟩⟩ := a
  obtain ⟨c2, k2, n2, g2, ⟨o2, m2, i2, p2⟩⟩ := b
  unfold sameE
  rw [toList_beq, toList_beq]
  rw [Bool.eq_iff_iff]
  simp [Bool.and_eq_true]

set_option maxRecDepth 100000 in
set_option maxHeartbeats 16000000 in
theorem sameEnt_any (a b : Ent) (g1 g2 : Value) (w : World) (h1 : Strs w g1 a.groups) (h2 : Strs w g2 b.groups) :
    Calls Tryz.prog 27 #[a.val g1, b.val g2] w fun e w' => e = .returned (.bool (sameE a b)) ∧ Below w.heap.size w w' := by
  obtain ⟨A1, c1, rfl⟩ : ∃ A c, g1 = .slice A a.groups.length c := let ⟨⟨A, cap, h, _⟩, _⟩ := h1; ⟨A, cap, h⟩
  obtain ⟨A2, c2, rfl⟩ : ∃ A c, g2 = .slice A b.groups.length c := let ⟨⟨A, cap, h, _⟩, _⟩ := h2; ⟨A, cap, h⟩
  have CS := Lib.hid (fun (W : World) (hW : Below w.heap.size w W) => same_any _ _ _ _ W (h1.below hW) (h2.below hW))
  clear h1 h2
  unfold sameE
  obtain ⟨ac, ak, an, ag, ⟨ao, am, ai, ap⟩⟩ := a
  obtain ⟨bc, bk, bn, bg, ⟨bo, bm, bi, bp⟩⟩ := b
  simp only at CS ⊢
  obtain ⟨q4, hq4⟩ : ∃ q, decide (ag = bg) = q := ⟨_, rfl⟩
  rw [hq4] at CS ⊢
  clear hq4
  cases t0 : ac.toList == bc.toList
  · go_enter Tryz.func27, Tryz.ntmps27
    go_wp2_with fail
    go_ret
    exact ⟨rfl, (((Below.refl _ _).alloc (Nat.le_refl _) _).alloc (by simp) _)⟩
  · skip
    cases t1 : ak == bk
    · go_enter Tryz.func27, Tryz.ntmps27
      go_wp2_with fail
      go_ret
      exact ⟨rfl, (((Below.refl _ _).alloc (Nat.le_refl _) _).alloc (by simp) _)⟩
    · skip
      cases t2 : an.toList == bn.toList
      · go_enter Tryz.func27, Tryz.ntmps27
        go_wp2_with fail
        go_ret
        exact ⟨rfl, (((Below.refl _ _).alloc (Nat.le_refl _) _).alloc (by simp) _)⟩
      · skip
        cases q4
        · go_enter Tryz.func27, Tryz.ntmps27
          go_wp2_with fail
          refine (CS.out _ (((Below.refl _ _).alloc (Nat.le_refl _) _).alloc (by simp) _)).mono ?_
          rintro e w1 ⟨rfl, hb1⟩
          obtain ⟨x0, x1, x2, x3, x4, x5, x6, x7, _⟩ := cells8 (blk_below (blk_alloc (blk_new w (.cells #[.string ac, .bool ak, .string an, .slice A1 ag.length c1, .int .i64 ao, .int .u64 am, .int .i64 ai, .int .u64 ap] 54)) (.cells #[.string bc, .bool bk, .string bn, .slice A2 bg.length c2, .int .i64 bo, .int .u64 bm, .int .i64 bi, .int .u64 bp] 54)) hb1 (by simp; omega))
          obtain ⟨y0, y1, y2, y3, y4, y5, y6, y7, _⟩ := cells8 (blk_below (blk_new' (.cells #[.string bc, .bool bk, .string bn, .slice A2 bg.length c2, .int .i64 bo, .int .u64 bm, .int .i64 bi, .int .u64 bp] 54) (by simp)) hb1 (b := w.heap.size + 1) (by simp))
          have HF := Lib.hid ((Below.trans (B := w.heap.size) (((Below.refl _ _).alloc (Nat.le_refl _) _).alloc (by simp) _) (hb1.mono (by simp; omega))))
          clear hb1
          go_wp2_with fail
          go_ret
          exact ⟨rfl, HF.out⟩
        · skip
          cases t4 : ao == bo
          · go_enter Tryz.func27, Tryz.ntmps27
            go_wp2_with fail
            refine (CS.out _ (((Below.refl _ _).alloc (Nat.le_refl _) _).alloc (by simp) _)).mono ?_
            rintro e w1 ⟨rfl, hb1⟩
            obtain ⟨x0, x1, x2, x3, x4, x5, x6, x7, _⟩ := cells8 (blk_below (blk_alloc (blk_new w (.cells #[.string ac, .bool ak, .string an, .slice A1 ag.length c1, .int .i64 ao, .int .u64 am, .int .i64 ai, .int .u64 ap] 54)) (.cells #[.string bc, .bool bk, .string bn, .slice A2 bg.length c2, .int .i64 bo, .int .u64 bm, .int .i64 bi, .int .u64 bp] 54)) hb1 (by simp; omega))
            obtain ⟨y0, y1, y2, y3, y4, y5, y6, y7, _⟩ := cells8 (blk_below (blk_new' (.cells #[.string bc, .bool bk, .string bn, .slice A2 bg.length c2, .int .i64 bo, .int .u64 bm, .int .i64 bi, .int .u64 bp] 54) (by simp)) hb1 (b := w.heap.size + 1) (by simp))
            have HF := Lib.hid ((Below.trans (B := w.heap.size) (((Below.refl _ _).alloc (Nat.le_refl _) _).alloc (by simp) _) (hb1.mono (by simp; omega))))
            clear hb1
            go_wp2_with fail
            go_ret
            exact ⟨rfl, HF.out⟩
          · skip
            cases t5 : am == bm
            · go_enter Tryz.func27, Tryz.ntmps27
              go_wp2_with fail
              refine (CS.out _ (((Below.refl _ _).alloc (Nat.le_refl _) _).alloc (by simp) _)).mono ?_
              rintro e w1 ⟨rfl, hb1⟩
              obtain ⟨x0, x1, x2, x3, x4, x5, x6, x7, _⟩ := cells8 (blk_below (blk_alloc (blk_new w (.cells #[.string ac, .bool ak, .string an, .slice A1 ag.length c1, .int .i64 ao, .int .u64 am, .int .i64 ai, .int .u64 ap] 54)) (.cells #[.string bc, .bool bk, .string bn, .slice A2 bg.length c2, .int .i64 bo, .int .u64 bm, .int .i64 bi, .int .u64 bp] 54)) hb1 (by simp; omega))
              obtain ⟨y0, y1, y2, y3, y4, y5, y6, y7, _⟩ := cells8 (blk_below (blk_new' (.cells #[.string bc, .bool bk, .string bn, .slice A2 bg.length c2, .int .i64 bo, .int .u64 bm, .int .i64 bi, .int .u64 bp] 54) (by simp)) hb1 (b := w.heap.size + 1) (by simp))
              have HF := Lib.hid ((Below.trans (B := w.heap.size) (((Below.refl _ _).alloc (Nat.le_refl _) _).alloc (by simp) _) (hb1.mono (by simp; omega))))
              clear hb1
              go_wp2_with fail
              go_ret
              exact ⟨rfl, HF.out⟩
            · skip
              cases t6 : ai == bi
              · go_enter Tryz.func27, Tryz.ntmps27
                go_wp2_with fail
                refine (CS.out _ (((Below.refl _ _).alloc (Nat.le_refl _) _).alloc (by simp) _)).mono ?_
                rintro e w1 ⟨rfl, hb1⟩
                obtain ⟨x0, x1, x2, x3, x4, x5, x6, x7, _⟩ := cells8 (blk_below (blk_alloc (blk_new w (.cells #[.string ac, .bool ak, .string an, .slice A1 ag.length c1, .int .i64 ao, .int .u64 am, .int .i64 ai, .int .u64 ap] 54)) (.cells #[.string bc, .bool bk, .string bn, .slice A2 bg.length c2, .int .i64 bo, .int .u64 bm, .int .i64 bi, .int .u64 bp] 54)) hb1 (by simp; omega))
                obtain ⟨y0, y1, y2, y3, y4, y5, y6, y7, _⟩ := cells8 (blk_below (blk_new' (.cells #[.string bc, .bool bk, .string bn, .slice A2 bg.length c2, .int .i64 bo, .int .u64 bm, .int .i64 bi, .int .u64 bp] 54) (by simp)) hb1 (b := w.heap.size + 1) (by simp))
                have HF := Lib.hid ((Below.trans (B := w.heap.size) (((Below.refl _ _).alloc (Nat.le_refl _) _).alloc (by simp) _) (hb1.mono (by simp; omega))))
                clear hb1
                go_wp2_with fail
                go_ret
                exact ⟨rfl, HF.out⟩
              · skip
                cases t7 : ap == bp
                · go_enter Tryz.func27, Tryz.ntmps27
                  go_wp2_with fail
                  refine (CS.out _ (((Below.refl _ _).alloc (Nat.le_refl _) _).alloc (by simp) _)).mono ?_
                  rintro e w1 ⟨rfl, hb1⟩
                  obtain ⟨x0, x1, x2, x3, x4, x5, x6, x7, _⟩ := cells8 (blk_below (blk_alloc (blk_new w (.cells #[.string ac, .bool ak, .string an, .slice A1 ag.length c1, .int .i64 ao, .int .u64 am, .int .i64 ai, .int .u64 ap] 54)) (.cells #[.string bc, .bool bk, .string bn, .slice A2 bg.length c2, .int .i64 bo, .int .u64 bm, .int .i64 bi, .int .u64 bp] 54)) hb1 (by simp; omega))
                  obtain ⟨y0, y1, y2, y3, y4, y5, y6, y7, _⟩ := cells8 (blk_below (blk_new' (.cells #[.string bc, .bool bk, .string bn, .slice A2 bg.length c2, .int .i64 bo, .int .u64 bm, .int .i64 bi, .int .u64 bp] 54) (by simp)) hb1 (b := w.heap.size + 1) (by simp))
                  have HF := Lib.hid ((Below.trans (B := w.heap.size) (((Below.refl _ _).alloc (Nat.le_refl _) _).alloc (by simp) _) (hb1.mono (by simp; omega))))
                  clear hb1
                  go_wp2_with fail
                  go_ret
                  exact ⟨rfl, HF.out⟩
                · go_enter Tryz.func27, Tryz.ntmps27
                  go_wp2_with fail
                  refine (CS.out _ (((Below.refl _ _).alloc (Nat.le_refl _) _).alloc (by simp) _)).mono ?_
                  rintro e w1 ⟨rfl, hb1⟩
                  obtain ⟨x0, x1, x2, x3, x4, x5, x6, x7, _⟩ := cells8 (blk_below (blk_alloc (blk_new w (.cells #[.string ac, .bool ak, .string an, .slice A1 ag.length c1, .int .i64 ao, .int .u64 am, .int .i64 ai, .int .u64 ap] 54)) (.cells #[.string bc, .bool bk, .string bn, .slice A2 bg.length c2, .int .i64 bo, .int .u64 bm, .int .i64 bi, .int .u64 bp] 54)) hb1 (by simp; omega))
                  obtain ⟨y0, y1, y2, y3, y4, y5, y6, y7, _⟩ := cells8 (blk_below (blk_new' (.cells #[.string bc, .bool bk, .string bn, .slice A2 bg.length c2, .int .i64 bo, .int .u64 bm, .int .i64 bi, .int .u64 bp] 54) (by simp)) hb1 (b := w.heap.size + 1) (by simp))
                  have HF := Lib.hid ((Below.trans (B := w.heap.size) (((Below.refl _ _).alloc (Nat.le_refl _) _).alloc (by simp) _) (hb1.mono (by simp; omega))))
                  clear hb1
                  go_wp2_with fail
                  go_ret
                  exact ⟨rfl, HF.out⟩

end Go.Proofs.YthbjcihdlhkboaaGreatDoor
