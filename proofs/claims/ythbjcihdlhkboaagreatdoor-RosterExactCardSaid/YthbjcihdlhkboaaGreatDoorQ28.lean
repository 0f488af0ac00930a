/- The reference's roster: Hear. -/
import Derived.Test.YthbjcihdlhkboaaGreatDoorQ27
namespace Go.Proofs.YthbjcihdlhkboaaGreatDoor
set_option linter.unusedSimpArgs false
set_option linter.unusedVariables false
open Go.RowKit Go.Maps Go.Shelf Go.Lib

theorem blk_set3 {w : World} {b : Nat} {x0 x1 x2 : Value} {T : TypeId} (h : w.heap[b]? = some (.cells #[x0, x1, x2] T)) (y0 y1 y2 : Value) :
    (((w.setCell ⟨b, 0, none⟩ y0).setCell ⟨b, 1, none⟩ y1).setCell ⟨b, 2, none⟩ y2).heap[b]? = some (.cells #[y0, y1, y2] T) := by
  have h2 := blk_set_same (blk_set_same (blk_set_same h 0 y0) 1 y1) 2 y2
  simpa using h2
theorem upd_set3 {w0 w : World} {B b : Nat} {ks : Nat → Prop} (h : Upd B ks w0 w) (hB : ks b ∨ B ≤ b) (y0 y1 y2 : Value) : Upd B ks w0 (((w.setCell ⟨b, 0, none⟩ y0).setCell ⟨b, 1, none⟩ y1).setCell ⟨b, 2, none⟩ y2) := Upd.setCell (Upd.setCell (Upd.setCell h hB y0) hB y1) hB y2
/-- The result is written where nothing of the roster lies. -/
theorem QAt.set3 {w : World} {B qb b : Nat} {X : Nat → Prop} {R : RS} {cs : Array Value} {T : TypeId} (h : QAt w B X qb R) (hb : w.heap[b]? = some (.cells cs T)) (h1 : T ≠ 54) (h2 : T ≠ 9) (h3 : T ≠ 129) (y0 y1 y2 : Value) :
    QAt (((w.setCell ⟨b, 0, none⟩ y0).setCell ⟨b, 1, none⟩ y1).setCell ⟨b, 2, none⟩ y2) B X qb R :=
  h.upd (ks := fun k => k = b) (upd_set3 (ks := fun k => k = b) (Upd.refl w.heap.size _ _) (.inl rfl) y0 y1 y2) (Nat.le_refl _) (fun e => by
    obtain ⟨v, hv, _⟩ := h.box
    rw [e, hb] at hv; simp at hv; exact h3 hv.2) (fun k cs T e hc => .inr (by
    rw [e, hb] at hc
    simp at hc
    rw [← hc.2]
    exact ⟨h1, h2⟩))

theorem half_other {w : World} {b c : Nat} {o : Obj} (h : w.heap[b]? = some o) (hne : b ≠ c) (y0 y1 y2 y3 : Value) : ((((w.setCell ⟨c, 4, none⟩ y0).setCell ⟨c, 5, none⟩ y1).setCell ⟨c, 6, none⟩ y2).setCell ⟨c, 7, none⟩ y3).heap[b]? = some o :=
  blk_set_other (blk_set_other (blk_set_other (blk_set_other h (a := (⟨c, 4, none⟩ : Addr)) y0 hne) (a := (⟨c, 5, none⟩ : Addr)) y1 hne) (a := (⟨c, 6, none⟩ : Addr)) y2 hne) (a := (⟨c, 7, none⟩ : Addr)) y3 hne
theorem half_below {w0 w : World} {B c : Nat} (h : Below B w0 w) (hB : B ≤ c) (y0 y1 y2 y3 : Value) : Below B w0 ((((w.setCell ⟨c, 4, none⟩ y0).setCell ⟨c, 5, none⟩ y1).setCell ⟨c, 6, none⟩ y2).setCell ⟨c, 7, none⟩ y3) := (((h.setCell hB y0).setCell hB y1).setCell hB y2).setCell hB y3
theorem half_grp {w : World} {B c : Nat} {v : Value} {gs : List ByteArray} {cs : Array Value} (h : Grp w B v gs) (hb : w.heap[c]? = some (.cells cs 54)) (y0 y1 y2 y3 : Value) : Grp ((((w.setCell ⟨c, 4, none⟩ y0).setCell ⟨c, 5, none⟩ y1).setCell ⟨c, 6, none⟩ y2).setCell ⟨c, 7, none⟩ y3) B v gs :=
  (((h.setT hb (by decide) 4 y0).setT (blk_set_same hb 4 y0) (by decide) 5 y1).setT (blk_set_same (blk_set_same hb 4 y0) 5 y1) (by decide) 6 y2).setT (blk_set_same (blk_set_same (blk_set_same hb 4 y0) 5 y1) 6 y2) (by decide) 7 y3
theorem below_set3 {w0 w : World} {B b : Nat} (h : Below B w0 w) (hB : B ≤ b) (y0 y1 y2 : Value) : Below B w0 (((w.setCell ⟨b, 0, none⟩ y0).setCell ⟨b, 1, none⟩ y1).setCell ⟨b, 2, none⟩ y2) := (((h.setCell hB y0).setCell hB y1).setCell hB y2)

set_option maxRecDepth 100000 in
set_option maxHeartbeats 8000000 in
theorem q16hear_any {w : World} {B qb : Nat} {X : Nat → Prop} {R : RS} (h : QAt w B X qb R) (hn : R.rows.length ≤ 1000000) (hfew : FewG R) (hX : ∀ k, X k → k < w.heap.size) (hB : B ≤ w.heap.size) (hv0 : 0 ≤ R.ver) (hv1 : R.ver < 18446744073709551615) (s : ByteArray) (k nn : Int) :
    Calls Tryz.prog 76 #[.pointer (some ⟨qb, 0, none⟩), .string s, .int .i64 k, .int .u64 nn] w fun r w' =>
      r = .returned (.tuple #[.agg #[.int .i64 (R.hearAll s k nn).2.1, .bool (R.hearAll s k nn).2.2.1, .bool (R.hearAll s k nn).2.2.2.1], .int .i64 (R.hearAll s k nn).2.2.2.2]) ∧ QDone w w' B qb X (R.hearAll s k nn).1 := by
  have hlk : (R.list.length : Int) ≤ 1000000 := by have := h.nm.len; omega
  unfold RS.hearAll RS.hear
  have h' : QAt w B X qb R := h
  have hqb := h.lt
  have HZ : Below w.heap.size w (w.alloc (.cells #[.int .i64 0, .bool false, .bool false] 63)) := (Below.refl _ _).alloc (Nat.le_refl _) _
  have HZb := blk_new w (.cells #[.int .i64 0, .bool false, .bool false] 63)
  have HZ := Lib.hid (And.intro HZ HZb)
  clear HZb
  have HQ := Lib.hid h'
  have hloc := fun W => reflocal_any s W
  obtain ⟨ec, hec⟩ : ∃ ec, (localS s).2 = ec := ⟨_, rfl⟩
  obtain ⟨x, hx⟩ : ∃ x, (localS s).1 = x := ⟨_, rfl⟩
  have HNF := Lib.hid (And.intro hn (And.intro hfew (And.intro hX (And.intro hB (And.intro hv0 hv1)))))
  have hw : IntKind.u64.wrap (R.ver + 1) = R.ver + 1 := IntWalk.u64_in _ (by omega)
  rw [hec, hx] at hloc
  rw [hec, hx]
  have HL := Lib.hid hloc
  clear h h' hn hfew hloc hx hec hX hB hv0 hv1
  by_cases hc : ec = 0
  · rw [if_pos hc]
    have q1 : (ec != 0) = false := by simp [hc]
    have q2 : (ec == 0) = true := by simp [hc]
    clear hc
    obtain ⟨e, he⟩ : ∃ e, R.entry x = e := ⟨_, rfl⟩
    have hct := HQ.out.nm.entry x
    rw [he] at hct
    have HEE := Lib.hid he
    obtain ⟨contact, kept, name, groups, ⟨o, n, i, m⟩⟩ := e
    simp only at hct
    subst hct
    rw [HEE.out]
    simp only
    cases hhs : hearS ⟨o, n, i, m⟩ k nn with
    | none =>
      simp only
      go_enter Tryz.func76, Tryz.ntmps76
      go_wp2_with fail
      refine (HL.out _).mono ?_
      rintro r w1 ⟨rfl, hb1⟩
      have H1 := Lib.hid (And.intro (HZ.out.1.trans (hb1.mono (by simp))) (blk_below HZ.out.2 hb1 (by simp)))
      clear hb1 HZ HL
      have hfx := HNF.out.2.1.entry HQ.out.nm contact
      have HE := Lib.hid (q16entry_any (HQ.out.below H1.out.1) contact HNF.out.1 hfx)
      clear hfx
      go_wp2_with fail
      refine HE.out.mono ?_
      rintro r w2 ⟨⟨A, c, rfl, hg⟩, hb2⟩
      have H2 := Lib.hid (And.intro (H1.out.1.trans (hb2.mono H1.out.1.size)) (And.intro (blk_below H1.out.2 hb2 (blk_lt H1.out.2)) (hg.lower H1.out.1.size)))
      have zl := blk_lt H1.out.2
      have zs := hb2.size
      clear hb2 hg H1 HE
      rw [HEE.out] at H2 ⊢
      simp only [Ent.val] at H2 ⊢
      have B1 := blk_alloc H2.out.2.1 (.cells #[.string contact, .bool kept, .string name, .slice A groups.length c, .int .i64 o, .int .u64 n, .int .i64 i, .int .u64 m] 54)
      have B2 := blk_new w2 (.cells #[.string contact, .bool kept, .string name, .slice A groups.length c, .int .i64 o, .int .u64 n, .int .i64 i, .int .u64 m] 54)
      obtain ⟨y0, y1, y2, y3, y4, y5, y6, y7, g0, g1, g2, g3, g4, g5, g6, g7⟩ := cells8 B2
      have hbf := H2.out.1.alloc H2.out.1.size (.cells #[.string contact, .bool kept, .string name, .slice A groups.length c, .int .i64 o, .int .u64 n, .int .i64 i, .int .u64 m] 54)
      have hal : Below w2.heap.size w2 (w2.alloc (.cells #[.string contact, .bool kept, .string name, .slice A groups.length c, .int .i64 o, .int .u64 n, .int .i64 i, .int .u64 m] 54)) := (Below.refl _ _).alloc (Nat.le_refl _) _
      have hgf : Grp _ w.heap.size (.slice A groups.length c) groups := H2.out.2.2.below hal
      have HB := Lib.hid hbf
      have HB2 := Lib.hid (And.intro B1 (And.intro B2 hgf))
      clear H2 hal
      have HS15 := Lib.hid (q15hear_any ⟨o, n, i, m⟩ k nn (w2.alloc (.cells #[.string contact, .bool kept, .string name, .slice A groups.length c, .int .i64 o, .int .u64 n, .int .i64 i, .int .u64 m] 54)))
      rw [hhs] at HS15
      simp only [hearV, Half.val] at HS15
      go_wp2_with fail
      refine HS15.out.mono ?_
      rintro r w3 ⟨rfl, hb3⟩
      have HB := Lib.hid (HB.out.trans (hb3.mono HB.out.size))
      have C1 := blk_below HB2.out.1 hb3 (blk_lt HB2.out.1)
      have C2 := blk_below HB2.out.2.1 hb3 (blk_lt HB2.out.2.1)
      have hg3 := HB2.out.2.2.below hb3
      have zs3 := hb3.size
      clear hb3 HS15 HB2 B1 B2 hgf hbf
      clear y0 g0 y1 g1 y2 g2 y3 g3 y4 g4 y5 g5 y6 g6 y7 g7
      have B1 := blk_alloc C1 (.cells #[.int .i64 0, .int .u64 0, .int .i64 0, .int .u64 0] 52)
      have hbf := HB.out.alloc HB.out.size (.cells #[.int .i64 0, .int .u64 0, .int .i64 0, .int .u64 0] 52)
      have HB := Lib.hid hbf
      clear hbf C1 C2 hg3
      obtain ⟨x0, x1, x2, f0, f1, f2⟩ := cells3 B1
      have BB := blk_set3 B1 (.int .i64 0) (.bool false) (.bool false)
      have BL := Lib.hid (below_set3 HB.out (b := w.heap.size) (Nat.le_refl _) (.int .i64 0) (.bool false) (.bool false))
      clear B1
      go_wp2_with fail
      generalize (((w3.alloc (.cells #[.int .i64 0, .int .u64 0, .int .i64 0, .int .u64 0] 52)).setCell ⟨w.heap.size, 0, none⟩ (.int .i64 0)).setCell ⟨w.heap.size, 1, none⟩ (.bool false)).setCell ⟨w.heap.size, 2, none⟩ (.bool false) = WW at *
      obtain ⟨k0, k1, k2, _⟩ := cells3 BB
      simp [bodyPost, results, Tryz.results76, go_sem, k0, k1, k2]
      exact QDone.same (HQ.out) BL.out
    | some ht =>
      obtain ⟨⟨ho, hn2, hi, hm⟩, t⟩ := ht
      simp only
      obtain ⟨isb, hisb⟩ : ∃ b, (R.get contact).isSome = b := ⟨_, rfl⟩
      rw [hisb]
      have HIS := Lib.hid hisb
      by_cases hdn : isb = false ∧ k = 1 ∧ R.asks ≤ (R.list.length : Int) - (R.kept : Int)
      · rw [if_pos hdn]
        obtain ⟨hib, hk1, hge⟩ := hdn
        subst hib
        have q5 : (k == 1) = true := by simp [hk1]
        clear hk1
        have q6 : decide (R.asks ≤ (R.list.length : Int) - (R.kept : Int)) = true := by simpa using hge
        simp only [Bool.false_eq_true, if_false]
        clear hge
        go_enter Tryz.func76, Tryz.ntmps76
        go_wp2_with fail
        refine (HL.out _).mono ?_
        rintro r w1 ⟨rfl, hb1⟩
        have H1 := Lib.hid (And.intro (HZ.out.1.trans (hb1.mono (by simp))) (blk_below HZ.out.2 hb1 (by simp)))
        clear hb1 HZ HL
        have hfx := HNF.out.2.1.entry HQ.out.nm contact
        have HE := Lib.hid (q16entry_any (HQ.out.below H1.out.1) contact HNF.out.1 hfx)
        clear hfx
        go_wp2_with fail
        refine HE.out.mono ?_
        rintro r w2 ⟨⟨A, c, rfl, hg⟩, hb2⟩
        have H2 := Lib.hid (And.intro (H1.out.1.trans (hb2.mono H1.out.1.size)) (And.intro (blk_below H1.out.2 hb2 (blk_lt H1.out.2)) (hg.lower H1.out.1.size)))
        have zl := blk_lt H1.out.2
        have zs := hb2.size
        clear hb2 hg H1 HE
        rw [HEE.out] at H2 ⊢
        simp only [Ent.val] at H2 ⊢
        have B1 := blk_alloc H2.out.2.1 (.cells #[.string contact, .bool kept, .string name, .slice A groups.length c, .int .i64 o, .int .u64 n, .int .i64 i, .int .u64 m] 54)
        have B2 := blk_new w2 (.cells #[.string contact, .bool kept, .string name, .slice A groups.length c, .int .i64 o, .int .u64 n, .int .i64 i, .int .u64 m] 54)
        obtain ⟨y0, y1, y2, y3, y4, y5, y6, y7, g0, g1, g2, g3, g4, g5, g6, g7⟩ := cells8 B2
        have hbf := H2.out.1.alloc H2.out.1.size (.cells #[.string contact, .bool kept, .string name, .slice A groups.length c, .int .i64 o, .int .u64 n, .int .i64 i, .int .u64 m] 54)
        have hal : Below w2.heap.size w2 (w2.alloc (.cells #[.string contact, .bool kept, .string name, .slice A groups.length c, .int .i64 o, .int .u64 n, .int .i64 i, .int .u64 m] 54)) := (Below.refl _ _).alloc (Nat.le_refl _) _
        have hgf : Grp _ w.heap.size (.slice A groups.length c) groups := H2.out.2.2.below hal
        have HB := Lib.hid hbf
        have HB2 := Lib.hid (And.intro B1 (And.intro B2 hgf))
        clear H2 hal
        have HS15 := Lib.hid (q15hear_any ⟨o, n, i, m⟩ k nn (w2.alloc (.cells #[.string contact, .bool kept, .string name, .slice A groups.length c, .int .i64 o, .int .u64 n, .int .i64 i, .int .u64 m] 54)))
        rw [hhs] at HS15
        simp only [hearV, Half.val] at HS15
        go_wp2_with fail
        refine HS15.out.mono ?_
        rintro r w3 ⟨rfl, hb3⟩
        have HB := Lib.hid (HB.out.trans (hb3.mono HB.out.size))
        have C1 := blk_below HB2.out.1 hb3 (blk_lt HB2.out.1)
        have C2 := blk_below HB2.out.2.1 hb3 (blk_lt HB2.out.2.1)
        have hg3 := HB2.out.2.2.below hb3
        have zs3 := hb3.size
        clear hb3 HS15 HB2 B1 B2 hgf hbf
        clear y0 g0 y1 g1 y2 g2 y3 g3 y4 g4 y5 g5 y6 g6 y7 g7
        have D1 := blk_alloc C1 (.cells #[.int .i64 ho, .int .u64 hn2, .int .i64 hi, .int .u64 hm] 52)
        have D2 := blk_alloc C2 (.cells #[.int .i64 ho, .int .u64 hn2, .int .i64 hi, .int .u64 hm] 52)
        have D3 := blk_new w3 (.cells #[.int .i64 ho, .int .u64 hn2, .int .i64 hi, .int .u64 hm] 52)
        have hg4 := hg3.below ((Below.refl _ _).alloc (Nat.le_refl _) (.cells #[.int .i64 ho, .int .u64 hn2, .int .i64 hi, .int .u64 hm] 52))
        have hbf := HB.out.alloc HB.out.size (.cells #[.int .i64 ho, .int .u64 hn2, .int .i64 hi, .int .u64 hm] 52)
        obtain ⟨b14, hb14⟩ : ∃ b, w3.heap.size = b := ⟨_, rfl⟩
        have zb14 : w2.heap.size < b14 := by have := zs3; simp at this; omega
        obtain ⟨w4, hw4⟩ : ∃ W, w3.alloc (.cells #[.int .i64 ho, .int .u64 hn2, .int .i64 hi, .int .u64 hm] 52) = W := ⟨_, rfl⟩
        rw [hw4] at D1 D2 D3 hg4 hbf
        rw [hb14] at D3
        have HD := Lib.hid (And.intro D1 (And.intro D2 (And.intro D3 (And.intro hg4 hbf))))
        clear D1 D2 D3 hg4 hbf C1 C2 hg3 HB
        have HCT := Lib.hid (q16count_any (HQ.out.below HD.out.2.2.2.2) HNF.out.1)
        have HW4 := Lib.hid hw4
        have HB14 := Lib.hid hb14
        clear hw4 hb14
        go_upto_region 8 with fail
        rw [HW4.out, HB14.out]
        clear HW4 HB14
        obtain ⟨cv, cf, _, _, ca, _⟩ := (HQ.out.below HD.out.2.2.2.2).ver_cell
        go_wp2_with fail
        refine HCT.out.mono ?_
        rintro r w5 ⟨rfl, hw5⟩
        obtain rfl := hw5.symm
        clear HCT
        have B1 := HD.out.1
        have HB := Lib.hid HD.out.2.2.2.2
        obtain ⟨x0, x1, x2, f0, f1, f2⟩ := cells3 B1
        have BB := blk_set3 B1 (.int .i64 0) (.bool true) (.bool false)
        have BL := Lib.hid (below_set3 HB.out (b := w.heap.size) (Nat.le_refl _) (.int .i64 0) (.bool true) (.bool false))
        clear B1
        go_wp2_with fail
        generalize ((w4.setCell ⟨w.heap.size, 0, none⟩ (.int .i64 0)).setCell ⟨w.heap.size, 1, none⟩ (.bool true)).setCell ⟨w.heap.size, 2, none⟩ (.bool false) = WW at *
        obtain ⟨k0, k1, k2, _⟩ := cells3 BB
        simp [bodyPost, results, Tryz.results76, go_sem, k0, k1, k2]
        exact QDone.same (HQ.out) BL.out
      · rw [if_neg hdn]
        cases hch : (kept && !(halfEq ⟨ho, hn2, hi, hm⟩ ⟨o, n, i, m⟩)) with
        | true =>
          have HCH := Lib.hid hch
          simp only [if_true]
          go_enter Tryz.func76, Tryz.ntmps76
          go_wp2_with fail
          refine (HL.out _).mono ?_
          rintro r w1 ⟨rfl, hb1⟩
          have H1 := Lib.hid (And.intro (HZ.out.1.trans (hb1.mono (by simp))) (blk_below HZ.out.2 hb1 (by simp)))
          clear hb1 HZ HL
          have hfx := HNF.out.2.1.entry HQ.out.nm contact
          have HE := Lib.hid (q16entry_any (HQ.out.below H1.out.1) contact HNF.out.1 hfx)
          clear hfx
          go_wp2_with fail
          refine HE.out.mono ?_
          rintro r w2 ⟨⟨A, c, rfl, hg⟩, hb2⟩
          have H2 := Lib.hid (And.intro (H1.out.1.trans (hb2.mono H1.out.1.size)) (And.intro (blk_below H1.out.2 hb2 (blk_lt H1.out.2)) (hg.lower H1.out.1.size)))
          have zl := blk_lt H1.out.2
          have zs := hb2.size
          clear hb2 hg H1 HE
          rw [HEE.out] at H2 ⊢
          simp only [Ent.val] at H2 ⊢
          have B1 := blk_alloc H2.out.2.1 (.cells #[.string contact, .bool kept, .string name, .slice A groups.length c, .int .i64 o, .int .u64 n, .int .i64 i, .int .u64 m] 54)
          have B2 := blk_new w2 (.cells #[.string contact, .bool kept, .string name, .slice A groups.length c, .int .i64 o, .int .u64 n, .int .i64 i, .int .u64 m] 54)
          obtain ⟨y0, y1, y2, y3, y4, y5, y6, y7, g0, g1, g2, g3, g4, g5, g6, g7⟩ := cells8 B2
          have hbf := H2.out.1.alloc H2.out.1.size (.cells #[.string contact, .bool kept, .string name, .slice A groups.length c, .int .i64 o, .int .u64 n, .int .i64 i, .int .u64 m] 54)
          have hal : Below w2.heap.size w2 (w2.alloc (.cells #[.string contact, .bool kept, .string name, .slice A groups.length c, .int .i64 o, .int .u64 n, .int .i64 i, .int .u64 m] 54)) := (Below.refl _ _).alloc (Nat.le_refl _) _
          have hgf : Grp _ w.heap.size (.slice A groups.length c) groups := H2.out.2.2.below hal
          have HB := Lib.hid hbf
          have HB2 := Lib.hid (And.intro B1 (And.intro B2 hgf))
          clear H2 hal
          have HS15 := Lib.hid (q15hear_any ⟨o, n, i, m⟩ k nn (w2.alloc (.cells #[.string contact, .bool kept, .string name, .slice A groups.length c, .int .i64 o, .int .u64 n, .int .i64 i, .int .u64 m] 54)))
          rw [hhs] at HS15
          simp only [hearV, Half.val] at HS15
          go_wp2_with fail
          refine HS15.out.mono ?_
          rintro r w3 ⟨rfl, hb3⟩
          have HB := Lib.hid (HB.out.trans (hb3.mono HB.out.size))
          have C1 := blk_below HB2.out.1 hb3 (blk_lt HB2.out.1)
          have C2 := blk_below HB2.out.2.1 hb3 (blk_lt HB2.out.2.1)
          have hg3 := HB2.out.2.2.below hb3
          have zs3 := hb3.size
          clear hb3 HS15 HB2 B1 B2 hgf hbf
          clear y0 g0 y1 g1 y2 g2 y3 g3 y4 g4 y5 g5 y6 g6 y7 g7
          have D1 := blk_alloc C1 (.cells #[.int .i64 ho, .int .u64 hn2, .int .i64 hi, .int .u64 hm] 52)
          have D2 := blk_alloc C2 (.cells #[.int .i64 ho, .int .u64 hn2, .int .i64 hi, .int .u64 hm] 52)
          have D3 := blk_new w3 (.cells #[.int .i64 ho, .int .u64 hn2, .int .i64 hi, .int .u64 hm] 52)
          have hg4 := hg3.below ((Below.refl _ _).alloc (Nat.le_refl _) (.cells #[.int .i64 ho, .int .u64 hn2, .int .i64 hi, .int .u64 hm] 52))
          have hbf := HB.out.alloc HB.out.size (.cells #[.int .i64 ho, .int .u64 hn2, .int .i64 hi, .int .u64 hm] 52)
          obtain ⟨b14, hb14⟩ : ∃ b, w3.heap.size = b := ⟨_, rfl⟩
          have zb14 : w2.heap.size < b14 := by have := zs3; simp at this; omega
          obtain ⟨w4, hw4⟩ : ∃ W, w3.alloc (.cells #[.int .i64 ho, .int .u64 hn2, .int .i64 hi, .int .u64 hm] 52) = W := ⟨_, rfl⟩
          rw [hw4] at D1 D2 D3 hg4 hbf
          rw [hb14] at D3
          have HD := Lib.hid (And.intro D1 (And.intro D2 (And.intro D3 (And.intro hg4 hbf))))
          clear D1 D2 D3 hg4 hbf C1 C2 hg3 HB
          have HCT := Lib.hid (q16count_any (HQ.out.below HD.out.2.2.2.2) HNF.out.1)
          have HW4 := Lib.hid hw4
          have HB14 := Lib.hid hb14
          clear hw4 hb14
          go_upto_region 8 with fail
          rw [HW4.out, HB14.out]
          clear HW4 HB14
          obtain ⟨cv, cf, _, _, ca, _⟩ := (HQ.out.below HD.out.2.2.2.2).ver_cell
          go_wp2_with fail
          refine HCT.out.mono ?_
          rintro r w5 ⟨rfl, hw5⟩
          obtain rfl := hw5.symm
          clear HCT
          go_upto_region 9 with fail
          go_cut [66] (fun s66 wx => s66 = .bool false ∧ wx = w4)
          case first =>
            by_cases hk1 : k = 1
            · have q5 : (k == 1) = true := by simp [hk1]
              cases isb with
              | true =>
                go_wp2_with fail
                go_meet
                exact ⟨rfl, rfl⟩
              | false =>
                have hge : ¬ R.asks ≤ (R.list.length : Int) - (R.kept : Int) := fun h => hdn ⟨rfl, hk1, h⟩
                have q6 : decide (R.asks ≤ (R.list.length : Int) - (R.kept : Int)) = false := by simpa using hge
                clear hge hk1
                go_wp2_with fail
                go_meet
                exact ⟨rfl, rfl⟩
            · have q5 : (k == 1) = false := by simp [hk1]
              go_wp2_with fail
              go_meet
              exact ⟨rfl, rfl⟩
          case rest =>
            obtain ⟨rfl, hwc⟩ := hcut
            obtain rfl := hwc.symm
            obtain ⟨y0, y1, y2, y3, y4, y5, y6, y7, g0, g1, g2, g3, g4, g5, g6, g7⟩ := cells8 HD.out.2.1
            obtain ⟨z0, z1, z2, z3, _⟩ := cells4 HD.out.2.2.1
            go_upto_region 11 with fail
            go_cut [18] (fun s18 wx => s18 = .pointer (some ⟨w4.heap.size, 0, none⟩) ∧ wx = w4.alloc (.cells #[.int .i64 t, .bool false, .bool true] 63))
            case first =>
              cases kept with
              | false =>
                cases hch
              | true =>
                simp only [Bool.true_and] at hch
                by_cases p1 : ho = o
                · have r1 : (ho != o) = false := by simp [p1]
                  by_cases p2 : hn2 = n
                  · have r2 : (hn2 != n) = false := by simp [p2]
                    by_cases p3 : hi = i
                    · have r3 : (hi != i) = false := by simp [p3]
                      by_cases p4 : hm = m
                      · have r4 : (hm != m) = false := by simp [p4]
                        have hch2 : halfEq ⟨ho, hn2, hi, hm⟩ ⟨o, n, i, m⟩ = true := by subst p1 p2 p3 p4; exact halfEq_iff.2 rfl
                        rw [hch2] at hch; cases hch
                      · have r4 : (hm != m) = true := by simp [p4]
                        clear p1 p2 p3 p4 hch
                        go_wp2_with fail
                        go_meet
                        exact ⟨rfl, rfl⟩
                    · have r3 : (hi != i) = true := by simp [p3]
                      clear p1 p2 p3 hch
                      go_wp2_with fail
                      go_meet
                      exact ⟨rfl, rfl⟩
                  · have r2 : (hn2 != n) = true := by simp [p2]
                    clear p1 p2 hch
                    go_wp2_with fail
                    go_meet
                    exact ⟨rfl, rfl⟩
                · have r1 : (ho != o) = true := by simp [p1]
                  clear p1 hch
                  go_wp2_with fail
                  go_meet
                  exact ⟨rfl, rfl⟩
            case rest =>
              obtain ⟨rfl, rfl⟩ := hcut
              have hch0 := HCH.out
              have E1 := blk_alloc HD.out.1 (.cells #[.int .i64 t, .bool false, .bool true] 63)
              have E2 := blk_alloc HD.out.2.1 (.cells #[.int .i64 t, .bool false, .bool true] 63)
              have E3 := blk_alloc HD.out.2.2.1 (.cells #[.int .i64 t, .bool false, .bool true] 63)
              have E4 := blk_new w4 (.cells #[.int .i64 t, .bool false, .bool true] 63)
              have hg5 := HD.out.2.2.2.1.below ((Below.refl _ _).alloc (Nat.le_refl _) (.cells #[.int .i64 t, .bool false, .bool true] 63))
              have hb5 := HD.out.2.2.2.2.alloc HD.out.2.2.2.2.size (.cells #[.int .i64 t, .bool false, .bool true] 63)
              have zb18 : b14 < w4.heap.size := blk_lt HD.out.2.2.1
              obtain ⟨b18, hb18⟩ : ∃ b, w4.heap.size = b := ⟨_, rfl⟩
              obtain ⟨w5, hw5⟩ : ∃ W, w4.alloc (.cells #[.int .i64 t, .bool false, .bool true] 63) = W := ⟨_, rfl⟩
              rw [hw5] at E1 E2 E3 E4 hg5 hb5
              rw [hb18] at E4 zb18
              rw [hw5, hb18]
              clear hw5 hb18 HD
              clear y0 g0 y1 g1 y2 g2 y3 g3 y4 g4 y5 g5 y6 g6 y7 g7 z0 z1 z2 z3 cv cf ca
              obtain ⟨y0, y1, y2, y3, y4, y5, y6, y7, g0, g1, g2, g3, g4, g5, g6, g7⟩ := cells8 E2
              obtain ⟨z0, z1, z2, z3, _⟩ := cells4 E3
              have F2 := blk_set_same (blk_set_same (blk_set_same (blk_set_same E2 4 (.int .i64 ho)) 5 (.int .u64 hn2)) 6 (.int .i64 hi)) 7 (.int .u64 hm)
              simp only [List.setIfInBounds_toArray, List.set_cons_zero, List.set_cons_succ] at F2
              have F1 := half_other E1 (c := w2.heap.size) (by omega) (.int .i64 ho) (.int .u64 hn2) (.int .i64 hi) (.int .u64 hm)
              have F3 := half_other E3 (c := w2.heap.size) (by omega) (.int .i64 ho) (.int .u64 hn2) (.int .i64 hi) (.int .u64 hm)
              have F4 := half_other E4 (c := w2.heap.size) (by omega) (.int .i64 ho) (.int .u64 hn2) (.int .i64 hi) (.int .u64 hm)
              have hg6 := half_grp hg5 E2 (.int .i64 ho) (.int .u64 hn2) (.int .i64 hi) (.int .u64 hm)
              have hb6 := half_below hb5 (c := w2.heap.size) (by omega) (.int .i64 ho) (.int .u64 hn2) (.int .i64 hi) (.int .u64 hm)
              have HD6 := Lib.hid (And.intro F1 (And.intro F2 (And.intro F3 (And.intro F4 (And.intro hg6 hb6)))))
              clear E1 E2 E3 E4 F1 F2 F3 F4 hg5 hg6 hb5 hb6
              go_upto_region 13 with fail
              clear y0 g0 y1 g1 y2 g2 y3 g3 y4 g4 y5 g5 y6 g6 y7 g7 z0 z1 z2 z3
              generalize ((((w5.setCell ⟨w2.heap.size, 4, none⟩ (.int .i64 ho)).setCell ⟨w2.heap.size, 5, none⟩ (.int .u64 hn2)).setCell ⟨w2.heap.size, 6, none⟩ (.int .i64 hi)).setCell ⟨w2.heap.size, 7, none⟩ (.int .u64 hm)) = w6 at *
              obtain ⟨_, _, z2, _⟩ := cells4 HD6.out.2.2.1
              go_cut [111] (fun s111 wx => s111 = .bool (isb || (hi != 0)) ∧ wx = w6)
              case first =>
                cases isb with
                | true =>
                  go_wp2_with fail
                  go_meet
                  exact ⟨rfl, rfl⟩
                | false =>
                  go_wp2_with fail
                  go_meet
                  exact ⟨by simp, rfl⟩
              case rest =>
                obtain ⟨rfl, hwc⟩ := hcut
                obtain rfl := hwc.symm
                clear z2
                obtain ⟨y0, y1, y2, y3, y4, y5, y6, y7, g0, g1, g2, g3, g4, g5, g6, g7⟩ := cells8 HD6.out.2.1
                have HC := Lib.hid (q16set_any (HQ.out.below HD6.out.2.2.2.2.2) (⟨contact, kept, name, groups, ⟨ho, hn2, hi, hm⟩⟩ : Ent) (.slice A groups.length c) ((HD6.out.2.2.2.2.1.av (fun k hk => .inl (HNF.out.2.2.1 k hk))).lower HNF.out.2.2.2.1) (fun k hk => by have := HNF.out.2.2.1 k hk; have := HD6.out.2.2.2.2.2.size; omega) HNF.out.1 (Nat.le_trans HNF.out.2.2.2.1 HD6.out.2.2.2.2.2.size))
                cases hsb : (isb || (hi != 0)) with
                | true =>
                  clear hsb hch0
                  go_wp2_with fail
                  refine HC.out.mono ?_
                  rintro r w7 ⟨rfl, hq7, hu6⟩
                  have hu7 : Upd w.heap.size (fun k => k = qb) w w7 := (Upd.of_below HD6.out.2.2.2.2.2 (Nat.le_refl _)).trans hu6 HD6.out.2.2.2.2.2.size
                  have G1 := blk_upd HD6.out.1 hu6 (blk_lt HD6.out.1) (by omega)
                  have G4 := blk_upd HD6.out.2.2.2.1 hu6 (blk_lt HD6.out.2.2.2.1) (by omega)
                  clear hu6 HC HD6
                  clear y0 g0 y1 g1 y2 g2 y3 g3 y4 g4 y5 g5 y6 g6 y7 g7
                  have J1 := blk_set_other G1 (a := (⟨qb, 2, none⟩ : Addr)) (.int .u64 (R.ver + 1)) (by show w.heap.size ≠ qb; omega)
                  have J4 := blk_set_other G4 (a := (⟨qb, 2, none⟩ : Addr)) (.int .u64 (R.ver + 1)) (by show b18 ≠ qb; omega)
                  obtain ⟨v1, v2, v3, v4⟩ := RS.set_ver R (⟨contact, kept, name, groups, ⟨ho, hn2, hi, hm⟩⟩ : Ent)
                  obtain ⟨cv, cf, _⟩ := hq7.ver_cell
                  rw [v1] at cv
                  have HV1 := Lib.hid v1
                  have hq8 := hq7.setVer (R.ver + 1)
                  have hu8 : Upd w.heap.size (fun k => k = qb) w (w7.setCell ⟨qb, 2, none⟩ (.int .u64 (R.ver + 1))) := Upd.setCell (ks := fun k => k = qb) hu7 (a := (⟨qb, 2, none⟩ : Addr)) (.inl rfl) _
                  obtain ⟨d0, d1, d2, _⟩ := cells3 G4
                  have HJ := Lib.hid (And.intro J1 (And.intro J4 (And.intro hq8 hu8)))
                  clear G1 G4 hq7 hu7 J1 J4 hq8 hu8 v1 v2 v3 v4
                  go_upto_region 17 with fail
                  clear cv cf hw d0 d1 d2
                  generalize w7.setCell ⟨qb, 2, none⟩ (.int .u64 (R.ver + 1)) = w8 at *
                  obtain ⟨G1, G4, hq8, hu8⟩ := HJ.out
                  obtain ⟨x0, x1, x2, f0, f1, f2⟩ := cells3 G1
                  have BB := blk_set3 G1 (.int .i64 t) (.bool false) (.bool true)
                  have BU := upd_set3 (w0 := w8) (B := w8.heap.size) (ks := fun k => k = w.heap.size) (b := w.heap.size) (Upd.refl _ _ _) (.inl rfl) (.int .i64 t) (.bool false) (.bool true)
                  have hqr := hq8.set3 G1 (by decide) (by decide) (by decide) (.int .i64 t) (.bool false) (.bool true)
                  have hur := hu8.comp BU hu8.size (fun k hk e => by omega)
                  have HFIN := Lib.hid (And.intro hqr hur)
                  clear BU hqr hur
                  obtain ⟨d0, d1, d2, _⟩ := cells3 G4
                  clear G1
                  go_wp2_with fail
                  generalize ((w8.setCell ⟨w.heap.size, 0, none⟩ (.int .i64 t)).setCell ⟨w.heap.size, 1, none⟩ (.bool false)).setCell ⟨w.heap.size, 2, none⟩ (.bool true) = WW at *
                  obtain ⟨k0, k1, k2, _⟩ := cells3 BB
                  simp [bodyPost, results, Tryz.results76, go_sem, k0, k1, k2]
                  exact ⟨by first | exact HFIN.out.1 | (rw [HV1.out]; exact HFIN.out.1), HFIN.out.2⟩
                | false =>
                  clear y0 g0 y1 g1 y2 g2 y3 g3 y4 g4 y5 g5 y6 g6 y7 g7
                  have hk0 : isb = false := by cases isb <;> simp_all
                  have hi0 : hi = 0 := by subst hk0; simpa using hsb
                  have hen : R.entry contact = Ent.new contact := by
                    have := HIS.out
                    rw [hk0] at this
                    unfold RS.entry
                    cases hg : R.get contact with
                    | none => rfl
                    | some e => rw [hg] at this; cases this
                  have hkk : kept = false := by
                    have := HEE.out
                    rw [hen] at this
                    exact (congrArg Ent.kept this).symm
                  rw [hkk] at hch0
                  cases hch0
        | false =>
          have HCH := Lib.hid hch
          simp only [Bool.false_eq_true, if_false]
          go_enter Tryz.func76, Tryz.ntmps76
          go_wp2_with fail
          refine (HL.out _).mono ?_
          rintro r w1 ⟨rfl, hb1⟩
          have H1 := Lib.hid (And.intro (HZ.out.1.trans (hb1.mono (by simp))) (blk_below HZ.out.2 hb1 (by simp)))
          clear hb1 HZ HL
          have hfx := HNF.out.2.1.entry HQ.out.nm contact
          have HE := Lib.hid (q16entry_any (HQ.out.below H1.out.1) contact HNF.out.1 hfx)
          clear hfx
          go_wp2_with fail
          refine HE.out.mono ?_
          rintro r w2 ⟨⟨A, c, rfl, hg⟩, hb2⟩
          have H2 := Lib.hid (And.intro (H1.out.1.trans (hb2.mono H1.out.1.size)) (And.intro (blk_below H1.out.2 hb2 (blk_lt H1.out.2)) (hg.lower H1.out.1.size)))
          have zl := blk_lt H1.out.2
          have zs := hb2.size
          clear hb2 hg H1 HE
          rw [HEE.out] at H2 ⊢
          simp only [Ent.val] at H2 ⊢
          have B1 := blk_alloc H2.out.2.1 (.cells #[.string contact, .bool kept, .string name, .slice A groups.length c, .int .i64 o, .int .u64 n, .int .i64 i, .int .u64 m] 54)
          have B2 := blk_new w2 (.cells #[.string contact, .bool kept, .string name, .slice A groups.length c, .int .i64 o, .int .u64 n, .int .i64 i, .int .u64 m] 54)
          obtain ⟨y0, y1, y2, y3, y4, y5, y6, y7, g0, g1, g2, g3, g4, g5, g6, g7⟩ := cells8 B2
          have hbf := H2.out.1.alloc H2.out.1.size (.cells #[.string contact, .bool kept, .string name, .slice A groups.length c, .int .i64 o, .int .u64 n, .int .i64 i, .int .u64 m] 54)
          have hal : Below w2.heap.size w2 (w2.alloc (.cells #[.string contact, .bool kept, .string name, .slice A groups.length c, .int .i64 o, .int .u64 n, .int .i64 i, .int .u64 m] 54)) := (Below.refl _ _).alloc (Nat.le_refl _) _
          have hgf : Grp _ w.heap.size (.slice A groups.length c) groups := H2.out.2.2.below hal
          have HB := Lib.hid hbf
          have HB2 := Lib.hid (And.intro B1 (And.intro B2 hgf))
          clear H2 hal
          have HS15 := Lib.hid (q15hear_any ⟨o, n, i, m⟩ k nn (w2.alloc (.cells #[.string contact, .bool kept, .string name, .slice A groups.length c, .int .i64 o, .int .u64 n, .int .i64 i, .int .u64 m] 54)))
          rw [hhs] at HS15
          simp only [hearV, Half.val] at HS15
          go_wp2_with fail
          refine HS15.out.mono ?_
          rintro r w3 ⟨rfl, hb3⟩
          have HB := Lib.hid (HB.out.trans (hb3.mono HB.out.size))
          have C1 := blk_below HB2.out.1 hb3 (blk_lt HB2.out.1)
          have C2 := blk_below HB2.out.2.1 hb3 (blk_lt HB2.out.2.1)
          have hg3 := HB2.out.2.2.below hb3
          have zs3 := hb3.size
          clear hb3 HS15 HB2 B1 B2 hgf hbf
          clear y0 g0 y1 g1 y2 g2 y3 g3 y4 g4 y5 g5 y6 g6 y7 g7
          have D1 := blk_alloc C1 (.cells #[.int .i64 ho, .int .u64 hn2, .int .i64 hi, .int .u64 hm] 52)
          have D2 := blk_alloc C2 (.cells #[.int .i64 ho, .int .u64 hn2, .int .i64 hi, .int .u64 hm] 52)
          have D3 := blk_new w3 (.cells #[.int .i64 ho, .int .u64 hn2, .int .i64 hi, .int .u64 hm] 52)
          have hg4 := hg3.below ((Below.refl _ _).alloc (Nat.le_refl _) (.cells #[.int .i64 ho, .int .u64 hn2, .int .i64 hi, .int .u64 hm] 52))
          have hbf := HB.out.alloc HB.out.size (.cells #[.int .i64 ho, .int .u64 hn2, .int .i64 hi, .int .u64 hm] 52)
          obtain ⟨b14, hb14⟩ : ∃ b, w3.heap.size = b := ⟨_, rfl⟩
          have zb14 : w2.heap.size < b14 := by have := zs3; simp at this; omega
          obtain ⟨w4, hw4⟩ : ∃ W, w3.alloc (.cells #[.int .i64 ho, .int .u64 hn2, .int .i64 hi, .int .u64 hm] 52) = W := ⟨_, rfl⟩
          rw [hw4] at D1 D2 D3 hg4 hbf
          rw [hb14] at D3
          have HD := Lib.hid (And.intro D1 (And.intro D2 (And.intro D3 (And.intro hg4 hbf))))
          clear D1 D2 D3 hg4 hbf C1 C2 hg3 HB
          have HCT := Lib.hid (q16count_any (HQ.out.below HD.out.2.2.2.2) HNF.out.1)
          have HW4 := Lib.hid hw4
          have HB14 := Lib.hid hb14
          clear hw4 hb14
          go_upto_region 8 with fail
          rw [HW4.out, HB14.out]
          clear HW4 HB14
          obtain ⟨cv, cf, _, _, ca, _⟩ := (HQ.out.below HD.out.2.2.2.2).ver_cell
          go_wp2_with fail
          refine HCT.out.mono ?_
          rintro r w5 ⟨rfl, hw5⟩
          obtain rfl := hw5.symm
          clear HCT
          go_upto_region 9 with fail
          go_cut [66] (fun s66 wx => s66 = .bool false ∧ wx = w4)
          case first =>
            by_cases hk1 : k = 1
            · have q5 : (k == 1) = true := by simp [hk1]
              cases isb with
              | true =>
                go_wp2_with fail
                go_meet
                exact ⟨rfl, rfl⟩
              | false =>
                have hge : ¬ R.asks ≤ (R.list.length : Int) - (R.kept : Int) := fun h => hdn ⟨rfl, hk1, h⟩
                have q6 : decide (R.asks ≤ (R.list.length : Int) - (R.kept : Int)) = false := by simpa using hge
                clear hge hk1
                go_wp2_with fail
                go_meet
                exact ⟨rfl, rfl⟩
            · have q5 : (k == 1) = false := by simp [hk1]
              go_wp2_with fail
              go_meet
              exact ⟨rfl, rfl⟩
          case rest =>
            obtain ⟨rfl, hwc⟩ := hcut
            obtain rfl := hwc.symm
            obtain ⟨y0, y1, y2, y3, y4, y5, y6, y7, g0, g1, g2, g3, g4, g5, g6, g7⟩ := cells8 HD.out.2.1
            obtain ⟨z0, z1, z2, z3, _⟩ := cells4 HD.out.2.2.1
            go_upto_region 11 with fail
            go_cut [18] (fun s18 wx => s18 = .pointer (some ⟨w4.heap.size, 0, none⟩) ∧ wx = w4.alloc (.cells #[.int .i64 t, .bool false, .bool false] 63))
            case first =>
              cases kept with
              | false =>
                go_wp2_with fail
                go_meet
                exact ⟨rfl, rfl⟩
              | true =>
                simp only [Bool.true_and] at hch
                by_cases p1 : ho = o
                · have r1 : (ho != o) = false := by simp [p1]
                  by_cases p2 : hn2 = n
                  · have r2 : (hn2 != n) = false := by simp [p2]
                    by_cases p3 : hi = i
                    · have r3 : (hi != i) = false := by simp [p3]
                      by_cases p4 : hm = m
                      · have r4 : (hm != m) = false := by simp [p4]
                        have hch2 : halfEq ⟨ho, hn2, hi, hm⟩ ⟨o, n, i, m⟩ = true := by subst p1 p2 p3 p4; exact halfEq_iff.2 rfl
                        clear p1 p2 p3 p4 hch hch2
                        go_wp2_with fail
                        go_meet
                        exact ⟨rfl, rfl⟩
                      · have r4 : (hm != m) = true := by simp [p4]
                        exact absurd (halfEq_iff.1 (by simpa using hch)) (by simp [p4])
                    · have r3 : (hi != i) = true := by simp [p3]
                      exact absurd (halfEq_iff.1 (by simpa using hch)) (by simp [p3])
                  · have r2 : (hn2 != n) = true := by simp [p2]
                    exact absurd (halfEq_iff.1 (by simpa using hch)) (by simp [p2])
                · have r1 : (ho != o) = true := by simp [p1]
                  exact absurd (halfEq_iff.1 (by simpa using hch)) (by simp [p1])
            case rest =>
              obtain ⟨rfl, rfl⟩ := hcut
              have hch0 := HCH.out
              have E1 := blk_alloc HD.out.1 (.cells #[.int .i64 t, .bool false, .bool false] 63)
              have E2 := blk_alloc HD.out.2.1 (.cells #[.int .i64 t, .bool false, .bool false] 63)
              have E3 := blk_alloc HD.out.2.2.1 (.cells #[.int .i64 t, .bool false, .bool false] 63)
              have E4 := blk_new w4 (.cells #[.int .i64 t, .bool false, .bool false] 63)
              have hg5 := HD.out.2.2.2.1.below ((Below.refl _ _).alloc (Nat.le_refl _) (.cells #[.int .i64 t, .bool false, .bool false] 63))
              have hb5 := HD.out.2.2.2.2.alloc HD.out.2.2.2.2.size (.cells #[.int .i64 t, .bool false, .bool false] 63)
              have zb18 : b14 < w4.heap.size := blk_lt HD.out.2.2.1
              obtain ⟨b18, hb18⟩ : ∃ b, w4.heap.size = b := ⟨_, rfl⟩
              obtain ⟨w5, hw5⟩ : ∃ W, w4.alloc (.cells #[.int .i64 t, .bool false, .bool false] 63) = W := ⟨_, rfl⟩
              rw [hw5] at E1 E2 E3 E4 hg5 hb5
              rw [hb18] at E4 zb18
              rw [hw5, hb18]
              clear hw5 hb18 HD
              clear y0 g0 y1 g1 y2 g2 y3 g3 y4 g4 y5 g5 y6 g6 y7 g7 z0 z1 z2 z3 cv cf ca
              obtain ⟨y0, y1, y2, y3, y4, y5, y6, y7, g0, g1, g2, g3, g4, g5, g6, g7⟩ := cells8 E2
              obtain ⟨z0, z1, z2, z3, _⟩ := cells4 E3
              have F2 := blk_set_same (blk_set_same (blk_set_same (blk_set_same E2 4 (.int .i64 ho)) 5 (.int .u64 hn2)) 6 (.int .i64 hi)) 7 (.int .u64 hm)
              simp only [List.setIfInBounds_toArray, List.set_cons_zero, List.set_cons_succ] at F2
              have F1 := half_other E1 (c := w2.heap.size) (by omega) (.int .i64 ho) (.int .u64 hn2) (.int .i64 hi) (.int .u64 hm)
              have F3 := half_other E3 (c := w2.heap.size) (by omega) (.int .i64 ho) (.int .u64 hn2) (.int .i64 hi) (.int .u64 hm)
              have F4 := half_other E4 (c := w2.heap.size) (by omega) (.int .i64 ho) (.int .u64 hn2) (.int .i64 hi) (.int .u64 hm)
              have hg6 := half_grp hg5 E2 (.int .i64 ho) (.int .u64 hn2) (.int .i64 hi) (.int .u64 hm)
              have hb6 := half_below hb5 (c := w2.heap.size) (by omega) (.int .i64 ho) (.int .u64 hn2) (.int .i64 hi) (.int .u64 hm)
              have HD6 := Lib.hid (And.intro F1 (And.intro F2 (And.intro F3 (And.intro F4 (And.intro hg6 hb6)))))
              clear E1 E2 E3 E4 F1 F2 F3 F4 hg5 hg6 hb5 hb6
              go_upto_region 13 with fail
              clear y0 g0 y1 g1 y2 g2 y3 g3 y4 g4 y5 g5 y6 g6 y7 g7 z0 z1 z2 z3
              generalize ((((w5.setCell ⟨w2.heap.size, 4, none⟩ (.int .i64 ho)).setCell ⟨w2.heap.size, 5, none⟩ (.int .u64 hn2)).setCell ⟨w2.heap.size, 6, none⟩ (.int .i64 hi)).setCell ⟨w2.heap.size, 7, none⟩ (.int .u64 hm)) = w6 at *
              obtain ⟨_, _, z2, _⟩ := cells4 HD6.out.2.2.1
              go_cut [111] (fun s111 wx => s111 = .bool (isb || (hi != 0)) ∧ wx = w6)
              case first =>
                cases isb with
                | true =>
                  go_wp2_with fail
                  go_meet
                  exact ⟨rfl, rfl⟩
                | false =>
                  go_wp2_with fail
                  go_meet
                  exact ⟨by simp, rfl⟩
              case rest =>
                obtain ⟨rfl, hwc⟩ := hcut
                obtain rfl := hwc.symm
                clear z2
                obtain ⟨y0, y1, y2, y3, y4, y5, y6, y7, g0, g1, g2, g3, g4, g5, g6, g7⟩ := cells8 HD6.out.2.1
                have HC := Lib.hid (q16set_any (HQ.out.below HD6.out.2.2.2.2.2) (⟨contact, kept, name, groups, ⟨ho, hn2, hi, hm⟩⟩ : Ent) (.slice A groups.length c) ((HD6.out.2.2.2.2.1.av (fun k hk => .inl (HNF.out.2.2.1 k hk))).lower HNF.out.2.2.2.1) (fun k hk => by have := HNF.out.2.2.1 k hk; have := HD6.out.2.2.2.2.2.size; omega) HNF.out.1 (Nat.le_trans HNF.out.2.2.2.1 HD6.out.2.2.2.2.2.size))
                cases hsb : (isb || (hi != 0)) with
                | true =>
                  clear hsb hch0
                  go_wp2_with fail
                  refine HC.out.mono ?_
                  rintro r w7 ⟨rfl, hq7, hu6⟩
                  have hu7 : Upd w.heap.size (fun k => k = qb) w w7 := (Upd.of_below HD6.out.2.2.2.2.2 (Nat.le_refl _)).trans hu6 HD6.out.2.2.2.2.2.size
                  have G1 := blk_upd HD6.out.1 hu6 (blk_lt HD6.out.1) (by omega)
                  have G4 := blk_upd HD6.out.2.2.2.1 hu6 (blk_lt HD6.out.2.2.2.1) (by omega)
                  clear hu6 HC HD6
                  clear y0 g0 y1 g1 y2 g2 y3 g3 y4 g4 y5 g5 y6 g6 y7 g7
                  obtain ⟨x0, x1, x2, f0, f1, f2⟩ := cells3 G1
                  have BB := blk_set3 G1 (.int .i64 t) (.bool false) (.bool false)
                  have BU := upd_set3 (w0 := w7) (B := w7.heap.size) (ks := fun k => k = w.heap.size) (b := w.heap.size) (Upd.refl _ _ _) (.inl rfl) (.int .i64 t) (.bool false) (.bool false)
                  have hqr := hq7.set3 G1 (by decide) (by decide) (by decide) (.int .i64 t) (.bool false) (.bool false)
                  have hur := hu7.comp BU hu7.size (fun k hk e => by omega)
                  have HFIN := Lib.hid (And.intro hqr hur)
                  clear BU hqr hur
                  obtain ⟨d0, d1, d2, _⟩ := cells3 G4
                  clear G1
                  go_wp2_with fail
                  generalize ((w7.setCell ⟨w.heap.size, 0, none⟩ (.int .i64 t)).setCell ⟨w.heap.size, 1, none⟩ (.bool false)).setCell ⟨w.heap.size, 2, none⟩ (.bool false) = WW at *
                  obtain ⟨k0, k1, k2, _⟩ := cells3 BB
                  simp [bodyPost, results, Tryz.results76, go_sem, k0, k1, k2]
                  exact ⟨by first | exact HFIN.out.1 | (rw [HCH.out]; exact HFIN.out.1), HFIN.out.2⟩
                | false =>
                  clear y0 g0 y1 g1 y2 g2 y3 g3 y4 g4 y5 g5 y6 g6 y7 g7
                  have hk0 : isb = false := by cases isb <;> simp_all
                  have hi0 : hi = 0 := by subst hk0; simpa using hsb
                  have hen : R.entry contact = Ent.new contact := by
                    have := HIS.out
                    rw [hk0] at this
                    unfold RS.entry
                    cases hg : R.get contact with
                    | none => rfl
                    | some e => rw [hg] at this; cases this
                  have hkk : kept = false := by
                    have := HEE.out
                    rw [hen] at this
                    exact (congrArg Ent.kept this).symm
                  have HSN := Lib.hid (RS.set_none (R := R) (e := (⟨contact, kept, name, groups, ⟨ho, hn2, hi, hm⟩⟩ : Ent)) hkk hi0 (by show (R.get contact).isSome = false; rw [HIS.out, hk0]))
                  have G1 := HD6.out.1
                  have G4 := HD6.out.2.2.2.1
                  have hq7 := HQ.out.below HD6.out.2.2.2.2.2
                  have hu7 : Upd w.heap.size (fun k => k = qb) w w6 := Upd.of_below HD6.out.2.2.2.2.2 (Nat.le_refl _)
                  clear hk0 hi0 hen hkk hsb HC
                  obtain ⟨x0, x1, x2, f0, f1, f2⟩ := cells3 G1
                  have BB := blk_set3 G1 (.int .i64 t) (.bool false) (.bool false)
                  have BU := upd_set3 (w0 := w6) (B := w6.heap.size) (ks := fun k => k = w.heap.size) (b := w.heap.size) (Upd.refl _ _ _) (.inl rfl) (.int .i64 t) (.bool false) (.bool false)
                  have hqr := hq7.set3 G1 (by decide) (by decide) (by decide) (.int .i64 t) (.bool false) (.bool false)
                  have hur := hu7.comp BU hu7.size (fun k hk e => by omega)
                  have HFIN := Lib.hid (And.intro hqr hur)
                  clear BU hqr hur
                  obtain ⟨d0, d1, d2, _⟩ := cells3 G4
                  clear G1
                  go_wp2_with fail
                  generalize ((w6.setCell ⟨w.heap.size, 0, none⟩ (.int .i64 t)).setCell ⟨w.heap.size, 1, none⟩ (.bool false)).setCell ⟨w.heap.size, 2, none⟩ (.bool false) = WW at *
                  obtain ⟨k0, k1, k2, _⟩ := cells3 BB
                  simp [bodyPost, results, Tryz.results76, go_sem, k0, k1, k2]
                  exact ⟨by first | exact HFIN.out.1 | (rw [HSN.out]; exact HFIN.out.1), HFIN.out.2⟩
  · rw [if_neg hc]
    have q1 : (ec != 0) = true := by simp [hc]
    have q2 : (ec == 0) = false := by simp [hc]
    clear hc
    go_enter Tryz.func76, Tryz.ntmps76
    go_wp2_with fail
    refine (HL.out _).mono ?_
    rintro r w1 ⟨rfl, hb1⟩
    have H1 := Lib.hid (And.intro (HZ.out.1.trans (hb1.mono (by simp))) (blk_below HZ.out.2 hb1 (by simp)))
    clear hb1 HZ HL
    have HB := Lib.hid H1.out.1
    have B1 := H1.out.2
    obtain ⟨x0, x1, x2, f0, f1, f2⟩ := cells3 B1
    have BB := blk_set3 B1 (.int .i64 0) (.bool false) (.bool false)
    have BL := Lib.hid (below_set3 HB.out (b := w.heap.size) (Nat.le_refl _) (.int .i64 0) (.bool false) (.bool false))
    clear B1
    go_wp2_with fail
    generalize ((w1.setCell ⟨w.heap.size, 0, none⟩ (.int .i64 0)).setCell ⟨w.heap.size, 1, none⟩ (.bool false)).setCell ⟨w.heap.size, 2, none⟩ (.bool false) = WW at *
    obtain ⟨k0, k1, k2, _⟩ := cells3 BB
    simp [bodyPost, results, Tryz.results76, go_sem, k0, k1, k2]
    exact QDone.same (HQ.out) BL.out

end Go.Proofs.YthbjcihdlhkboaaGreatDoor
