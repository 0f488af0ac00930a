/- The reference's roster: Get, Drop, Put. The reference's roster: Drop, Put. -/
import Derived.Test.YthbjcihdlhkboaaGreatDoorQ26
namespace Go.Proofs.YthbjcihdlhkboaaGreatDoor
set_option linter.unusedSimpArgs false
set_option linter.unusedVariables false
open Go.RowKit Go.Maps Go.Shelf Go.Lib

theorem FewG.entry {R : RS} (h : FewG R) (hn : RNm R) (s : ByteArray) : (R.entry s).groups.length ≤ 1000000 := by
  unfold RS.entry
  cases hg : R.get s with
  | none => simp [Ent.new]
  | some e => exact h e (hn.mem.2 (by rw [hn.name s e hg]; exact hg))
/-- The count of changes is written. -/
theorem QAt.setVer {w : World} {B qb : Nat} {X : Nat → Prop} {R : RS} (h : QAt w B X qb R) (v : Int) : QAt (w.setCell ⟨qb, 2, none⟩ (.int .u64 v)) B X qb { R with ver := v } where
  nm := h.nm.ver v R.next
  box := by
    obtain ⟨u, h1, h2⟩ := h.box
    refine ⟨u, blk_set_same h1 2 _, h2.keep fun k cs T hc hT _ _ => Below.heap_setCell w ⟨qb, 2, none⟩ _ k (fun e => ?_)⟩
    subst e
    rw [h1] at hc
    simp at hc
    rcases hT with e | e <;> rw [← hc.2] at e <;> revert e <;> decide
  lo := h.lo
theorem QAt.setNext {w : World} {B qb : Nat} {X : Nat → Prop} {R : RS} (h : QAt w B X qb R) (v : Int) : QAt (w.setCell ⟨qb, 3, none⟩ (.int .u64 v)) B X qb { R with next := v } where
  nm := h.nm.ver R.ver v
  box := by
    obtain ⟨u, h1, h2⟩ := h.box
    refine ⟨u, blk_set_same h1 3 _, h2.keep fun k cs T hc hT _ _ => Below.heap_setCell w ⟨qb, 3, none⟩ _ k (fun e => ?_)⟩
    subst e
    rw [h1] at hc
    simp at hc
    rcases hT with e | e <;> rw [← hc.2] at e <;> revert e <;> decide
  lo := h.lo
/-- A block that is none of it is written. -/
theorem QAt.set8 {w : World} {B qb b : Nat} {X : Nat → Prop} {R : RS} (h : QAt w B X qb R) (hb : X b) (hne : b ≠ qb) (y0 y1 y2 y3 y4 y5 y6 y7 : Value) :
    QAt ((((((((w.setCell ⟨b, 0, none⟩ y0).setCell ⟨b, 1, none⟩ y1).setCell ⟨b, 2, none⟩ y2).setCell ⟨b, 3, none⟩ y3).setCell ⟨b, 4, none⟩ y4).setCell ⟨b, 5, none⟩ y5).setCell ⟨b, 6, none⟩ y6).setCell ⟨b, 7, none⟩ y7) B X qb R :=
  h.upd (ks := fun k => k = b) (upd_set8 (ks := fun k => k = b) (Upd.refl w.heap.size _ _) (.inl rfl) y0 y1 y2 y3 y4 y5 y6 y7) (Nat.le_refl _) (fun e => hne e.symm) (fun k cs T e _ => .inl (e ▸ hb))

set_option maxRecDepth 100000 in
set_option maxHeartbeats 8000000 in
theorem q16get_any {w : World} {B qb : Nat} {X : Nat → Prop} {R : RS} (h : QAt w B X qb R) (hn : R.rows.length ≤ 1000000) (hfew : FewG R) (he : R.get ⟨#[]⟩ = none) (s : ByteArray) :
    Calls Tryz.prog 77 #[.pointer (some ⟨qb, 0, none⟩), .string s] w fun r w' =>
      (∃ A c, r = .returned (.tuple #[((R.get (localS s).1).getD (Ent.new ⟨#[]⟩)).val (.slice A ((R.get (localS s).1).getD (Ent.new ⟨#[]⟩)).groups.length c), .bool (R.get (localS s).1).isSome]) ∧ Grp w' w.heap.size (.slice A ((R.get (localS s).1).getD (Ent.new ⟨#[]⟩)).groups.length c) ((R.get (localS s).1).getD (Ent.new ⟨#[]⟩)).groups) ∧ Below w.heap.size w w' := by
  have h' := h
  have HZ : Below w.heap.size w (w.alloc (.cells #[.string ⟨#[]⟩, .bool false, .string ⟨#[]⟩, .slice none 0 0, .int .i64 0, .int .u64 0, .int .i64 0, .int .u64 0] 54)) := (Below.refl _ _).alloc (Nat.le_refl _) _
  have HZb := blk_new w (.cells #[.string ⟨#[]⟩, .bool false, .string ⟨#[]⟩, .slice none 0 0, .int .i64 0, .int .u64 0, .int .i64 0, .int .u64 0] 54)
  have HZ := Lib.hid (And.intro HZ HZb)
  clear HZb
  have HQ := Lib.hid h'
  have hloc := fun W => reflocal_any s W
  obtain ⟨ec, hec⟩ : ∃ ec, (localS s).2 = ec := ⟨_, rfl⟩
  obtain ⟨x, hx⟩ : ∃ x, (localS s).1 = x := ⟨_, rfl⟩
  have HNF := Lib.hid (And.intro hn (And.intro hfew trivial))
  have hno := @local_no s
  rw [hec, hx] at hno hloc
  rw [hx]
  have HL := Lib.hid hloc
  clear h h' hn hfew hloc hx hec
  cases hgx : R.get x with
  | none =>
    have hen : R.entry x = Ent.new x := by unfold RS.entry; rw [hgx]; rfl
    simp only [Option.getD_none, Option.isSome_none]
    clear hno he
    by_cases hc : ec = 0
    · have q1 : (ec != 0) = false := by simp [hc]
      have q2 : (ec == 0) = true := by simp [hc]
      clear hc
      go_enter Tryz.func77, Tryz.ntmps77
      go_wp2_with fail
      refine (HL.out _).mono ?_
      rintro r w1 ⟨rfl, hb1⟩
      have H1 := Lib.hid (And.intro (HZ.out.1.trans (hb1.mono (by simp))) (blk_below HZ.out.2 hb1 (by simp)))
      clear hb1 HZ HL
      have hfx := HNF.out.2.1.entry HQ.out.nm x
      have HE := Lib.hid (q16entry_any (HQ.out.below H1.out.1) x HNF.out.1 hfx)
      clear hfx
      go_wp2_with fail
      refine HE.out.mono ?_
      rintro r w2 ⟨⟨A, c, rfl, hg⟩, hb2⟩
      have H2 := Lib.hid (And.intro (H1.out.1.trans (hb2.mono H1.out.1.size)) (And.intro (blk_below H1.out.2 hb2 (blk_lt H1.out.2)) (hg.lower H1.out.1.size)))
      have zl := blk_lt H1.out.2
      have zs := hb2.size
      clear hb2 hg H1 HE
      rw [hen] at H2 ⊢
      simp only [Option.isSome_none, Ent.new, Ent.val, List.length_nil, hgx] at H2 ⊢
      have B1 := blk_alloc H2.out.2.1 (.cells #[.string x, .bool false, .string ⟨#[]⟩, .slice A 0 c, .int .i64 0, .int .u64 0, .int .i64 0, .int .u64 0] 54)
      have hbf := H2.out.1.alloc H2.out.1.size (.cells #[.string x, .bool false, .string ⟨#[]⟩, .slice A 0 c, .int .i64 0, .int .u64 0, .int .i64 0, .int .u64 0] 54)
      have HFB := Lib.hid hbf
      clear hgx hen hbf
      obtain ⟨x0, x1, x2, x3, x4, x5, x6, x7, f0, f1, f2, f3, f4, f5, f6, f7⟩ := cells8 B1
      have BB := blk_set8 B1 (.string ⟨#[]⟩) (.bool false) (.string ⟨#[]⟩) (.slice none 0 0) (.int .i64 0) (.int .u64 0) (.int .i64 0) (.int .u64 0)
      have BL := Lib.hid (below_set8 HFB.out (b := w.heap.size) (Nat.le_refl _) (.string ⟨#[]⟩) (.bool false) (.string ⟨#[]⟩) (.slice none 0 0) (.int .i64 0) (.int .u64 0) (.int .i64 0) (.int .u64 0))
      clear B1
      go_wp2_with fail
      generalize (((((((((w2.alloc (.cells #[.string x, .bool false, .string ⟨#[]⟩, .slice A 0 c, .int .i64 0, .int .u64 0, .int .i64 0, .int .u64 0] 54)).setCell ⟨w.heap.size, 0, none⟩ (.string ⟨#[]⟩)).setCell ⟨w.heap.size, 1, none⟩ (.bool false)).setCell ⟨w.heap.size, 2, none⟩ (.string ⟨#[]⟩)).setCell ⟨w.heap.size, 3, none⟩ (.slice none 0 0)).setCell ⟨w.heap.size, 4, none⟩ (.int .i64 0)).setCell ⟨w.heap.size, 5, none⟩ (.int .u64 0)).setCell ⟨w.heap.size, 6, none⟩ (.int .i64 0)).setCell ⟨w.heap.size, 7, none⟩ (.int .u64 0)) = WW at *
      have k0 := blk_cell BB 0
      have k1 := blk_cell BB 1
      have k2 := blk_cell BB 2
      have k3 := blk_cell BB 3
      have k4 := blk_cell BB 4
      have k5 := blk_cell BB 5
      have k6 := blk_cell BB 6
      have k7 := blk_cell BB 7
      simp [bodyPost, results, Tryz.results77, go_sem, k0, k1, k2, k3, k4, k5, k6, k7]
      exact ⟨⟨none, 0, by simp [Ent.new], Grp.nil _ _⟩, BL.out⟩
    · have q1 : (ec != 0) = true := by simp [hc]
      have q2 : (ec == 0) = false := by simp [hc]
      clear hc
      go_enter Tryz.func77, Tryz.ntmps77
      go_wp2_with fail
      refine (HL.out _).mono ?_
      rintro r w1 ⟨rfl, hb1⟩
      have H1 := Lib.hid (And.intro (HZ.out.1.trans (hb1.mono (by simp))) (blk_below HZ.out.2 hb1 (by simp)))
      clear hb1 HZ HL
      have hfx := HNF.out.2.1.entry HQ.out.nm x
      have HE := Lib.hid (q16entry_any (HQ.out.below H1.out.1) x HNF.out.1 hfx)
      clear hfx
      go_wp2_with fail
      refine HE.out.mono ?_
      rintro r w2 ⟨⟨A, c, rfl, hg⟩, hb2⟩
      have H2 := Lib.hid (And.intro (H1.out.1.trans (hb2.mono H1.out.1.size)) (And.intro (blk_below H1.out.2 hb2 (blk_lt H1.out.2)) (hg.lower H1.out.1.size)))
      have zl := blk_lt H1.out.2
      have zs := hb2.size
      clear hb2 hg H1 HE
      rw [hen] at H2 ⊢
      simp only [Option.isSome_none, Ent.new, Ent.val, List.length_nil, hgx] at H2 ⊢
      have B1 := blk_alloc H2.out.2.1 (.cells #[.string x, .bool false, .string ⟨#[]⟩, .slice A 0 c, .int .i64 0, .int .u64 0, .int .i64 0, .int .u64 0] 54)
      have hbf := H2.out.1.alloc H2.out.1.size (.cells #[.string x, .bool false, .string ⟨#[]⟩, .slice A 0 c, .int .i64 0, .int .u64 0, .int .i64 0, .int .u64 0] 54)
      have HFB := Lib.hid hbf
      clear hgx hen hbf
      obtain ⟨x0, x1, x2, x3, x4, x5, x6, x7, f0, f1, f2, f3, f4, f5, f6, f7⟩ := cells8 B1
      have BB := blk_set8 B1 (.string ⟨#[]⟩) (.bool false) (.string ⟨#[]⟩) (.slice none 0 0) (.int .i64 0) (.int .u64 0) (.int .i64 0) (.int .u64 0)
      have BL := Lib.hid (below_set8 HFB.out (b := w.heap.size) (Nat.le_refl _) (.string ⟨#[]⟩) (.bool false) (.string ⟨#[]⟩) (.slice none 0 0) (.int .i64 0) (.int .u64 0) (.int .i64 0) (.int .u64 0))
      clear B1
      go_wp2_with fail
      generalize (((((((((w2.alloc (.cells #[.string x, .bool false, .string ⟨#[]⟩, .slice A 0 c, .int .i64 0, .int .u64 0, .int .i64 0, .int .u64 0] 54)).setCell ⟨w.heap.size, 0, none⟩ (.string ⟨#[]⟩)).setCell ⟨w.heap.size, 1, none⟩ (.bool false)).setCell ⟨w.heap.size, 2, none⟩ (.string ⟨#[]⟩)).setCell ⟨w.heap.size, 3, none⟩ (.slice none 0 0)).setCell ⟨w.heap.size, 4, none⟩ (.int .i64 0)).setCell ⟨w.heap.size, 5, none⟩ (.int .u64 0)).setCell ⟨w.heap.size, 6, none⟩ (.int .i64 0)).setCell ⟨w.heap.size, 7, none⟩ (.int .u64 0)) = WW at *
      have k0 := blk_cell BB 0
      have k1 := blk_cell BB 1
      have k2 := blk_cell BB 2
      have k3 := blk_cell BB 3
      have k4 := blk_cell BB 4
      have k5 := blk_cell BB 5
      have k6 := blk_cell BB 6
      have k7 := blk_cell BB 7
      simp [bodyPost, results, Tryz.results77, go_sem, k0, k1, k2, k3, k4, k5, k6, k7]
      exact ⟨⟨none, 0, by simp [Ent.new], Grp.nil _ _⟩, BL.out⟩
  | some e =>
    have hc : ec = 0 := by
      by_cases hc : ec = 0
      · exact hc
      · rw [hno hc, he] at hgx; cases hgx
    subst hc
    have hen : R.entry x = e := by unfold RS.entry; rw [hgx]; rfl
    obtain ⟨contact, kept, name, groups, ⟨o, n, i, m⟩⟩ := e
    simp only [Option.isSome_some, Option.getD_some, Ent.val]
    go_enter Tryz.func77, Tryz.ntmps77
    go_wp2_with fail
    refine (HL.out _).mono ?_
    rintro r w1 ⟨rfl, hb1⟩
    have H1 := Lib.hid (And.intro (HZ.out.1.trans (hb1.mono (by simp))) (blk_below HZ.out.2 hb1 (by simp)))
    clear hb1 HZ HL
    have hfx := HNF.out.2.1.entry HQ.out.nm x
    have HE := Lib.hid (q16entry_any (HQ.out.below H1.out.1) x HNF.out.1 hfx)
    clear hfx
    go_wp2_with fail
    refine HE.out.mono ?_
    rintro r w2 ⟨⟨A, c, rfl, hg⟩, hb2⟩
    have H2 := Lib.hid (And.intro (H1.out.1.trans (hb2.mono H1.out.1.size)) (And.intro (blk_below H1.out.2 hb2 (blk_lt H1.out.2)) (hg.lower H1.out.1.size)))
    have zl := blk_lt H1.out.2
    have zs := hb2.size
    clear hb2 hg H1 HE
    rw [hen] at H2 ⊢
    simp only [Option.isSome_some, Ent.val, hgx] at H2 ⊢
    have B1 := blk_alloc H2.out.2.1 (.cells #[.string contact, .bool kept, .string name, .slice A groups.length c, .int .i64 o, .int .u64 n, .int .i64 i, .int .u64 m] 54)
    have B2 := blk_new w2 (.cells #[.string contact, .bool kept, .string name, .slice A groups.length c, .int .i64 o, .int .u64 n, .int .i64 i, .int .u64 m] 54)
    obtain ⟨y0, y1, y2, y3, y4, y5, y6, y7, g0, g1, g2, g3, g4, g5, g6, g7⟩ := cells8 B2
    have hbf := H2.out.1.alloc H2.out.1.size (.cells #[.string contact, .bool kept, .string name, .slice A groups.length c, .int .i64 o, .int .u64 n, .int .i64 i, .int .u64 m] 54)
    have hal : Below w2.heap.size w2 (w2.alloc (.cells #[.string contact, .bool kept, .string name, .slice A groups.length c, .int .i64 o, .int .u64 n, .int .i64 i, .int .u64 m] 54)) := (Below.refl _ _).alloc (Nat.le_refl _) _
    have hgf : Grp _ w.heap.size (.slice A groups.length c) groups := H2.out.2.2.below hal
    have BL := Lib.hid (below_set8 hbf (b := w.heap.size) (Nat.le_refl _) (.string contact) (.bool kept) (.string name) (.slice A groups.length c) (.int .i64 o) (.int .u64 n) (.int .i64 i) (.int .u64 m))
    have BU := upd_set8 (w0 := (w2.alloc (.cells #[.string contact, .bool kept, .string name, .slice A groups.length c, .int .i64 o, .int .u64 n, .int .i64 i, .int .u64 m] 54))) (B := (w2.alloc (.cells #[.string contact, .bool kept, .string name, .slice A groups.length c, .int .i64 o, .int .u64 n, .int .i64 i, .int .u64 m] 54)).heap.size) (ks := fun k => k = w.heap.size) (b := w.heap.size) (Upd.refl _ _ _) (.inl rfl) (.string contact) (.bool kept) (.string name) (.slice A groups.length c) (.int .i64 o) (.int .u64 n) (.int .i64 i) (.int .u64 m)
    have hgr := hgf.kept fun k cur hk _ => BU.block k (blk_lt hk) (fun e => by rw [e, B1] at hk; simp at hk)
    have HGR := Lib.hid hgr
    clear hno he hgx hen hbf hgf hal BU hgr B2 HQ H2 HNF
    obtain ⟨x0, x1, x2, x3, x4, x5, x6, x7, f0, f1, f2, f3, f4, f5, f6, f7⟩ := cells8 B1
    have BB := blk_set8 B1 (.string contact) (.bool kept) (.string name) (.slice A groups.length c) (.int .i64 o) (.int .u64 n) (.int .i64 i) (.int .u64 m)
    clear B1
    go_wp2_with fail
    generalize (((((((((w2.alloc (.cells #[.string contact, .bool kept, .string name, .slice A groups.length c, .int .i64 o, .int .u64 n, .int .i64 i, .int .u64 m] 54)).setCell ⟨w.heap.size, 0, none⟩ (.string contact)).setCell ⟨w.heap.size, 1, none⟩ (.bool kept)).setCell ⟨w.heap.size, 2, none⟩ (.string name)).setCell ⟨w.heap.size, 3, none⟩ (.slice A groups.length c)).setCell ⟨w.heap.size, 4, none⟩ (.int .i64 o)).setCell ⟨w.heap.size, 5, none⟩ (.int .u64 n)).setCell ⟨w.heap.size, 6, none⟩ (.int .i64 i)).setCell ⟨w.heap.size, 7, none⟩ (.int .u64 m)) = WW at *
    have k0 := blk_cell BB 0
    have k1 := blk_cell BB 1
    have k2 := blk_cell BB 2
    have k3 := blk_cell BB 3
    have k4 := blk_cell BB 4
    have k5 := blk_cell BB 5
    have k6 := blk_cell BB 6
    have k7 := blk_cell BB 7
    simp [bodyPost, results, Tryz.results77, go_sem, k0, k1, k2, k3, k4, k5, k6, k7]
    exact ⟨⟨_, _, ⟨rfl, rfl⟩, HGR.out⟩, BL.out⟩

end Go.Proofs.YthbjcihdlhkboaaGreatDoor

namespace Go.Proofs.YthbjcihdlhkboaaGreatDoor
set_option linter.unusedSimpArgs false
set_option linter.unusedVariables false
open Go.RowKit Go.Maps Go.Shelf Go.Lib

theorem QAt.ver_cell {w : World} {B qb : Nat} {X : Nat → Prop} {R : RS} (h : QAt w B X qb R) : w.cell? ⟨qb, 2, none⟩ = some (.int .u64 R.ver) ∧ w.frozen? ⟨qb, 2, none⟩ = false ∧ w.cell? ⟨qb, 3, none⟩ = some (.int .u64 R.next) ∧ w.frozen? ⟨qb, 3, none⟩ = false ∧ w.cell? ⟨qb, 1, none⟩ = some (.int .i64 R.asks) ∧ w.cell? ⟨qb, 0, none⟩ = some (.int .i64 R.items) := by
  obtain ⟨v, h1, _⟩ := h.box
  exact ⟨blk_cell h1 2, blk_frozen h1 2, blk_cell h1 3, blk_frozen h1 3, blk_cell h1 1, blk_cell h1 0⟩
/-- What a call of the reference leaves. -/
structure QDone (w w' : World) (B qb : Nat) (X : Nat → Prop) (R : RS) : Prop where
  at_ : QAt w' B X qb R
  upd : Upd w.heap.size (fun k => k = qb) w w'
theorem QDone.same {w w' : World} {B qb : Nat} {X : Nat → Prop} {R : RS} (h : QAt w B X qb R) (hb : Below w.heap.size w w') : QDone w w' B qb X R := ⟨h.below hb, Upd.of_below hb (Nat.le_refl _)⟩
/-- Groups stand where a block of another kind is written. -/
theorem Grp.setT {w : World} {B b : Nat} {v : Value} {gs : List ByteArray} {cs : Array Value} {T : TypeId} (h : Grp w B v gs) (hb : w.heap[b]? = some (.cells cs T)) (hT : T ≠ 9) (j : Nat) (u : Value) : Grp (w.setCell ⟨b, j, none⟩ u) B v gs :=
  h.kept fun k cur hc _ => Below.heap_setCell w (⟨b, j, none⟩ : Addr) u k (fun e => by
    subst e
    rw [hb] at hc
    simp at hc
    exact hT hc.2)
theorem Grp.updT {w w' : World} {B C b : Nat} {v : Value} {gs : List ByteArray} {cs : Array Value} {T : TypeId} (h : Grp w B v gs) (hb : w.heap[b]? = some (.cells cs T)) (hT : T ≠ 9) (hu : Upd C (fun k => k = b) w w') (hC : w.heap.size ≤ C) : Grp w' B v gs :=
  h.kept fun k cur hc _ => hu.block k (by have := blk_lt hc; omega) (fun e => by
    subst e
    rw [hb] at hc
    simp at hc
    exact hT hc.2)

set_option maxRecDepth 100000 in
set_option maxHeartbeats 8000000 in
theorem q16drop_any {w : World} {B qb : Nat} {X : Nat → Prop} {R : RS} (h : QAt w B X qb R) (hn : R.rows.length ≤ 1000000) (hfew : FewG R) (hX : ∀ k, X k → k < w.heap.size) (hB : B ≤ w.heap.size) (hv0 : 0 ≤ R.ver) (hv1 : R.ver < 18446744073709551615) (s : ByteArray) :
    Calls Tryz.prog 74 #[.pointer (some ⟨qb, 0, none⟩), .string s] w fun r w' =>
      (∃ A c, r = .returned (.tuple #[(R.dropAll s).2.1.val (.slice A (R.dropAll s).2.1.groups.length c), .int .i64 (R.dropAll s).2.2]) ∧ Grp w' w.heap.size (.slice A (R.dropAll s).2.1.groups.length c) (R.dropAll s).2.1.groups) ∧ QDone w w' B qb X (R.dropAll s).1 := by
  unfold RS.dropAll
  have h' : QAt w B (fun k => X k ∨ k = w.heap.size) qb R := h.more fun k hk => by
    rcases hk with hk | hk
    · exact .inl hk
    · exact .inr (.inr (by omega))
  have hqb := h.lt
  have HZ : Below w.heap.size w (w.alloc (.cells #[.string ⟨#[]⟩, .bool false, .string ⟨#[]⟩, .slice none 0 0, .int .i64 0, .int .u64 0, .int .i64 0, .int .u64 0] 54)) := (Below.refl _ _).alloc (Nat.le_refl _) _
  have HZb := blk_new w (.cells #[.string ⟨#[]⟩, .bool false, .string ⟨#[]⟩, .slice none 0 0, .int .i64 0, .int .u64 0, .int .i64 0, .int .u64 0] 54)
  have HZ := Lib.hid (And.intro HZ HZb)
  clear HZb
  have HQ := Lib.hid h'
  have hloc := fun W => reflocal_any s W
  obtain ⟨ec, hec⟩ : ∃ ec, (localS s).2 = ec := ⟨_, rfl⟩
  obtain ⟨x, hx⟩ : ∃ x, (localS s).1 = x := ⟨_, rfl⟩
  have HNF := Lib.hid (And.intro hn (And.intro hfew (And.intro hX (And.intro hB (And.intro hv0 hv1)))))
  have hw : IntKind.u64.wrap (R.ver + 1) = R.ver + 1 := IntWalk.u64_in _ (by omega)
  rw [hec, hx] at hloc
  rw [hec, hx]
  have HL := Lib.hid hloc
  clear h h' hn hfew hloc hx hec hX hB hv0 hv1
  by_cases hc : ec = 0
  · rw [if_neg (by simpa using hc)]
    have q1 : (ec != 0) = false := by simp [hc]
    have q2 : (ec == 0) = true := by simp [hc]
    clear hc
    obtain ⟨e, he⟩ : ∃ e, R.entry x = e := ⟨_, rfl⟩
    have hct := HQ.out.nm.entry x
    rw [he] at hct
    have HEE := Lib.hid he
    obtain ⟨contact, kept, name, groups, ⟨o, n, i, m⟩⟩ := e
    simp only at hct
    subst hct
    rw [HEE.out]
    cases kept with
    | false =>
      rw [if_pos rfl]
      go_enter Tryz.func74, Tryz.ntmps74
      go_wp2_with fail
      refine (HL.out _).mono ?_
      rintro r w1 ⟨rfl, hb1⟩
      have H1 := Lib.hid (And.intro (HZ.out.1.trans (hb1.mono (by simp))) (blk_below HZ.out.2 hb1 (by simp)))
      clear hb1 HZ HL
      have hfx := HNF.out.2.1.entry HQ.out.nm contact
      have HE := Lib.hid (q16entry_any (HQ.out.below H1.out.1) contact HNF.out.1 hfx)
      clear hfx
      go_wp2_with fail
      refine HE.out.mono ?_
      rintro r w2 ⟨⟨A, c, rfl, hg⟩, hb2⟩
      have H2 := Lib.hid (And.intro (H1.out.1.trans (hb2.mono H1.out.1.size)) (And.intro (blk_below H1.out.2 hb2 (blk_lt H1.out.2)) (hg.lower H1.out.1.size)))
      have zl := blk_lt H1.out.2
      have zs := hb2.size
      clear hb2 hg H1 HE
      rw [HEE.out] at H2 ⊢
      simp only [Ent.val] at H2 ⊢
      have B1 := blk_alloc H2.out.2.1 (.cells #[.string contact, .bool false, .string name, .slice A groups.length c, .int .i64 o, .int .u64 n, .int .i64 i, .int .u64 m] 54)
      have B2 := blk_new w2 (.cells #[.string contact, .bool false, .string name, .slice A groups.length c, .int .i64 o, .int .u64 n, .int .i64 i, .int .u64 m] 54)
      obtain ⟨y0, y1, y2, y3, y4, y5, y6, y7, g0, g1, g2, g3, g4, g5, g6, g7⟩ := cells8 B2
      have hbf := H2.out.1.alloc H2.out.1.size (.cells #[.string contact, .bool false, .string name, .slice A groups.length c, .int .i64 o, .int .u64 n, .int .i64 i, .int .u64 m] 54)
      have hal : Below w2.heap.size w2 (w2.alloc (.cells #[.string contact, .bool false, .string name, .slice A groups.length c, .int .i64 o, .int .u64 n, .int .i64 i, .int .u64 m] 54)) := (Below.refl _ _).alloc (Nat.le_refl _) _
      have hgf : Grp _ w.heap.size (.slice A groups.length c) groups := H2.out.2.2.below hal
      have HB := Lib.hid hbf
      clear H2 hal
      clear hgf hbf B2
      obtain ⟨x0, x1, x2, x3, x4, x5, x6, x7, f0, f1, f2, f3, f4, f5, f6, f7⟩ := cells8 B1
      have BB := blk_set8 B1 (.string ⟨#[]⟩) (.bool false) (.string ⟨#[]⟩) (.slice none 0 0) (.int .i64 0) (.int .u64 0) (.int .i64 0) (.int .u64 0)
      have BL := Lib.hid (below_set8 HB.out (b := w.heap.size) (Nat.le_refl _) (.string ⟨#[]⟩) (.bool false) (.string ⟨#[]⟩) (.slice none 0 0) (.int .i64 0) (.int .u64 0) (.int .i64 0) (.int .u64 0))
      clear B1
      go_wp2_with fail
      generalize (((((((((w2.alloc (.cells #[.string contact, .bool false, .string name, .slice A groups.length c, .int .i64 o, .int .u64 n, .int .i64 i, .int .u64 m] 54)).setCell ⟨w.heap.size, 0, none⟩ (.string ⟨#[]⟩)).setCell ⟨w.heap.size, 1, none⟩ (.bool false)).setCell ⟨w.heap.size, 2, none⟩ (.string ⟨#[]⟩)).setCell ⟨w.heap.size, 3, none⟩ (.slice none 0 0)).setCell ⟨w.heap.size, 4, none⟩ (.int .i64 0)).setCell ⟨w.heap.size, 5, none⟩ (.int .u64 0)).setCell ⟨w.heap.size, 6, none⟩ (.int .i64 0)).setCell ⟨w.heap.size, 7, none⟩ (.int .u64 0)) = WW at *
      have k0 := blk_cell BB 0
      have k1 := blk_cell BB 1
      have k2 := blk_cell BB 2
      have k3 := blk_cell BB 3
      have k4 := blk_cell BB 4
      have k5 := blk_cell BB 5
      have k6 := blk_cell BB 6
      have k7 := blk_cell BB 7
      simp [bodyPost, results, Tryz.results74, go_sem, k0, k1, k2, k3, k4, k5, k6, k7]
      exact ⟨⟨none, 0, by simp [Ent.zero], Grp.nil _ _⟩, QDone.same (HQ.out.more (fun k hk => .inl (.inl hk))) BL.out⟩
    | true =>
      rw [if_neg (by simp)]
      go_enter Tryz.func74, Tryz.ntmps74
      go_wp2_with fail
      refine (HL.out _).mono ?_
      rintro r w1 ⟨rfl, hb1⟩
      have H1 := Lib.hid (And.intro (HZ.out.1.trans (hb1.mono (by simp))) (blk_below HZ.out.2 hb1 (by simp)))
      clear hb1 HZ HL
      have hfx := HNF.out.2.1.entry HQ.out.nm contact
      have HE := Lib.hid (q16entry_any (HQ.out.below H1.out.1) contact HNF.out.1 hfx)
      clear hfx
      go_wp2_with fail
      refine HE.out.mono ?_
      rintro r w2 ⟨⟨A, c, rfl, hg⟩, hb2⟩
      have H2 := Lib.hid (And.intro (H1.out.1.trans (hb2.mono H1.out.1.size)) (And.intro (blk_below H1.out.2 hb2 (blk_lt H1.out.2)) (hg.lower H1.out.1.size)))
      have zl := blk_lt H1.out.2
      have zs := hb2.size
      clear hb2 hg H1 HE
      rw [HEE.out] at H2 ⊢
      simp only [Ent.val] at H2 ⊢
      have B1 := blk_alloc H2.out.2.1 (.cells #[.string contact, .bool true, .string name, .slice A groups.length c, .int .i64 o, .int .u64 n, .int .i64 i, .int .u64 m] 54)
      have B2 := blk_new w2 (.cells #[.string contact, .bool true, .string name, .slice A groups.length c, .int .i64 o, .int .u64 n, .int .i64 i, .int .u64 m] 54)
      obtain ⟨y0, y1, y2, y3, y4, y5, y6, y7, g0, g1, g2, g3, g4, g5, g6, g7⟩ := cells8 B2
      have hbf := H2.out.1.alloc H2.out.1.size (.cells #[.string contact, .bool true, .string name, .slice A groups.length c, .int .i64 o, .int .u64 n, .int .i64 i, .int .u64 m] 54)
      have hal : Below w2.heap.size w2 (w2.alloc (.cells #[.string contact, .bool true, .string name, .slice A groups.length c, .int .i64 o, .int .u64 n, .int .i64 i, .int .u64 m] 54)) := (Below.refl _ _).alloc (Nat.le_refl _) _
      have hgf : Grp _ w.heap.size (.slice A groups.length c) groups := H2.out.2.2.below hal
      have HB := Lib.hid hbf
      clear H2 hal
      have HC := Lib.hid (q16set_any (HQ.out.below hbf) (Ent.new contact) (.slice none 0 0) ⟨Grp.nil _ _, fun h => absurd rfl h⟩ (fun k hk => by
        rcases hk with hk | hk
        · have := HNF.out.2.2.1 k hk; have := hbf.size; omega
        · have := hbf.size; simp at this ⊢; omega) HNF.out.1 (Nat.le_trans HNF.out.2.2.2.1 hbf.size))
      have HK := Lib.hid (And.intro B1 (And.intro B2 hgf))
      clear B1 B2 hgf hbf
      go_wp2_with fail
      refine HC.out.mono ?_
      rintro r w4 ⟨rfl, hq4, hu4⟩
      have C1 := blk_upd HK.out.1 hu4 (blk_lt HK.out.1) (by omega)
      have C2 := blk_upd HK.out.2.1 hu4 (blk_lt HK.out.2.1) (by omega)
      obtain ⟨vq, hvq, _⟩ := (HQ.out.below HB.out).box
      have hg4 := HK.out.2.2.updT hvq (by decide) hu4 (Nat.le_refl _)
      obtain ⟨v1, v2, v3, v4⟩ := RS.set_ver R (Ent.new contact)
      obtain ⟨cv, cf, _⟩ := hq4.ver_cell
      rw [v1] at cv
      have D1 := blk_set_other C1 (a := (⟨qb, 2, none⟩ : Addr)) (.int .u64 (R.ver + 1)) (by show w.heap.size ≠ qb; omega)
      have D2 := blk_set_other C2 (a := (⟨qb, 2, none⟩ : Addr)) (.int .u64 (R.ver + 1)) (by show w2.heap.size ≠ qb; omega)
      have hq5 := hq4.setVer (R.ver + 1)
      obtain ⟨vq4, hvq4, _⟩ := hq4.box
      have hg5 := hg4.setT hvq4 (by decide) 2 (.int .u64 (R.ver + 1))
      have hu5 : Upd w.heap.size (fun k => k = qb) w (w4.setCell ⟨qb, 2, none⟩ (.int .u64 (R.ver + 1))) := Upd.setCell (ks := fun k => k = qb) ((Upd.of_below HB.out (Nat.le_refl _)).trans hu4 HB.out.size) (a := (⟨qb, 2, none⟩ : Addr)) (.inl rfl) _
      have HF := Lib.hid (And.intro D1 (And.intro D2 (And.intro hq5 (And.intro hg5 hu5))))
      clear C1 C2 D1 D2 hq4 hq5 hg4 hg5 hu4 hu5 HC HK v1 v2 v3 v4 hvq hvq4
      clear y0 g0 y1 g1 y2 g2 y3 g3 y4 g4 y5 g5 y6 g6 y7 g7
      go_upto_region 9 with fail
      clear cv cf hw
      generalize w4.setCell ⟨qb, 2, none⟩ (.int .u64 (R.ver + 1)) = w5 at *
      have B1 := HF.out.1
      obtain ⟨y0, y1, y2, y3, y4, y5, y6, y7, g0, g1, g2, g3, g4, g5, g6, g7⟩ := cells8 HF.out.2.1
      have BU := upd_set8 (w0 := w5) (B := w5.heap.size) (ks := fun k => k = w.heap.size) (b := w.heap.size) (Upd.refl _ _ _) (.inl rfl) (.string contact) (.bool true) (.string name) (.slice A groups.length c) (.int .i64 o) (.int .u64 n) (.int .i64 i) (.int .u64 m)
      have hgr := HF.out.2.2.2.1.updT B1 (by decide) BU (Nat.le_refl _)
      have hqr := HF.out.2.2.1.set8 (b := w.heap.size) (.inr rfl) (by omega) (.string contact) (.bool true) (.string name) (.slice A groups.length c) (.int .i64 o) (.int .u64 n) (.int .i64 i) (.int .u64 m)
      have hur := HF.out.2.2.2.2.comp BU HF.out.2.2.2.2.size (fun k hk e => by omega)
      have HFIN := Lib.hid (And.intro hgr (And.intro hqr hur))
      clear BU hgr hqr hur
      obtain ⟨x0, x1, x2, x3, x4, x5, x6, x7, f0, f1, f2, f3, f4, f5, f6, f7⟩ := cells8 B1
      have BB := blk_set8 B1 (.string contact) (.bool true) (.string name) (.slice A groups.length c) (.int .i64 o) (.int .u64 n) (.int .i64 i) (.int .u64 m)
      clear B1
      go_wp2_with fail
      generalize ((((((((w5.setCell ⟨w.heap.size, 0, none⟩ (.string contact)).setCell ⟨w.heap.size, 1, none⟩ (.bool true)).setCell ⟨w.heap.size, 2, none⟩ (.string name)).setCell ⟨w.heap.size, 3, none⟩ (.slice A groups.length c)).setCell ⟨w.heap.size, 4, none⟩ (.int .i64 o)).setCell ⟨w.heap.size, 5, none⟩ (.int .u64 n)).setCell ⟨w.heap.size, 6, none⟩ (.int .i64 i)).setCell ⟨w.heap.size, 7, none⟩ (.int .u64 m)) = WW at *
      have k0 := blk_cell BB 0
      have k1 := blk_cell BB 1
      have k2 := blk_cell BB 2
      have k3 := blk_cell BB 3
      have k4 := blk_cell BB 4
      have k5 := blk_cell BB 5
      have k6 := blk_cell BB 6
      have k7 := blk_cell BB 7
      simp [bodyPost, results, Tryz.results74, go_sem, k0, k1, k2, k3, k4, k5, k6, k7]
      exact ⟨⟨_, _, ⟨rfl, rfl⟩, HFIN.out.1⟩, ⟨HFIN.out.2.1.more (fun k hk => .inl (.inl hk)), HFIN.out.2.2⟩⟩
  · rw [if_pos (by simpa using hc)]
    have q1 : (ec != 0) = true := by simp [hc]
    have q2 : (ec == 0) = false := by simp [hc]
    clear hc
    go_enter Tryz.func74, Tryz.ntmps74
    go_wp2_with fail
    refine (HL.out _).mono ?_
    rintro r w1 ⟨rfl, hb1⟩
    have H1 := Lib.hid (And.intro (HZ.out.1.trans (hb1.mono (by simp))) (blk_below HZ.out.2 hb1 (by simp)))
    clear hb1 HZ HL
    have HB := Lib.hid H1.out.1
    have B1 := H1.out.2
    obtain ⟨x0, x1, x2, x3, x4, x5, x6, x7, f0, f1, f2, f3, f4, f5, f6, f7⟩ := cells8 B1
    have BB := blk_set8 B1 (.string ⟨#[]⟩) (.bool false) (.string ⟨#[]⟩) (.slice none 0 0) (.int .i64 0) (.int .u64 0) (.int .i64 0) (.int .u64 0)
    have BL := Lib.hid (below_set8 HB.out (b := w.heap.size) (Nat.le_refl _) (.string ⟨#[]⟩) (.bool false) (.string ⟨#[]⟩) (.slice none 0 0) (.int .i64 0) (.int .u64 0) (.int .i64 0) (.int .u64 0))
    clear B1
    go_wp2_with fail
    generalize ((((((((w1.setCell ⟨w.heap.size, 0, none⟩ (.string ⟨#[]⟩)).setCell ⟨w.heap.size, 1, none⟩ (.bool false)).setCell ⟨w.heap.size, 2, none⟩ (.string ⟨#[]⟩)).setCell ⟨w.heap.size, 3, none⟩ (.slice none 0 0)).setCell ⟨w.heap.size, 4, none⟩ (.int .i64 0)).setCell ⟨w.heap.size, 5, none⟩ (.int .u64 0)).setCell ⟨w.heap.size, 6, none⟩ (.int .i64 0)).setCell ⟨w.heap.size, 7, none⟩ (.int .u64 0)) = WW at *
    have k0 := blk_cell BB 0
    have k1 := blk_cell BB 1
    have k2 := blk_cell BB 2
    have k3 := blk_cell BB 3
    have k4 := blk_cell BB 4
    have k5 := blk_cell BB 5
    have k6 := blk_cell BB 6
    have k7 := blk_cell BB 7
    simp [bodyPost, results, Tryz.results74, go_sem, k0, k1, k2, k3, k4, k5, k6, k7]
    exact ⟨⟨none, 0, by simp [Ent.zero], Grp.nil _ _⟩, QDone.same (HQ.out.more (fun k hk => .inl (.inl hk))) BL.out⟩

set_option maxRecDepth 100000 in
set_option maxHeartbeats 8000000 in
theorem q16put_any {w : World} {B qb : Nat} {X : Nat → Prop} {R : RS} (h : QAt w B X qb R) (hn : R.rows.length ≤ 1000000) (hfew : FewG R) (hX : ∀ k, X k → k < w.heap.size) (hB : B ≤ w.heap.size) (hv0 : 0 ≤ R.ver) (hv1 : R.ver < 18446744073709551615) (s l : ByteArray) (v : Value) (gs : List ByteArray) (hv : Strs w v gs) (hgl : gs.length ≤ 1000000) :
    Calls Tryz.prog 43 #[.pointer (some ⟨qb, 0, none⟩), .string s, .string l, v] w fun r w' =>
      (∃ A c, r = .returned (.tuple #[(R.putAll s l gs).2.1.val (.slice A (R.putAll s l gs).2.1.groups.length c), .int .i64 (R.putAll s l gs).2.2]) ∧ Grp w' w.heap.size (.slice A (R.putAll s l gs).2.1.groups.length c) (R.putAll s l gs).2.1.groups) ∧ QDone w w' B qb X (R.putAll s l gs).1 := by
  unfold RS.putAll RS.putE
  have HW := Lib.hid (fun (W : World) (hW : Below w.heap.size w W) => q16words_any l v gs W (hv.below hW))
  have HSO := Lib.hid (fun (W : World) (hW : Below w.heap.size w W) => q16sorted_any W v gs (hv.below hW) hgl)
  have HSL := Lib.hid (Nat.le_trans (sortG_le gs) hgl)
  have hvs : ∃ VA vc, v = .slice VA gs.length vc := let ⟨⟨A, cap, h, _⟩, _⟩ := hv; ⟨A, cap, h⟩
  obtain ⟨VA, vc, rfl⟩ := hvs
  clear hv hgl
  have h' : QAt w B (fun k => X k ∨ k = w.heap.size) qb R := h.more fun k hk => by
    rcases hk with hk | hk
    · exact .inl hk
    · exact .inr (.inr (by omega))
  have hqb := h.lt
  have HZ : Below w.heap.size w (w.alloc (.cells #[.string ⟨#[]⟩, .bool false, .string ⟨#[]⟩, .slice none 0 0, .int .i64 0, .int .u64 0, .int .i64 0, .int .u64 0] 54)) := (Below.refl _ _).alloc (Nat.le_refl _) _
  have HZb := blk_new w (.cells #[.string ⟨#[]⟩, .bool false, .string ⟨#[]⟩, .slice none 0 0, .int .i64 0, .int .u64 0, .int .i64 0, .int .u64 0] 54)
  have HZ := Lib.hid (And.intro HZ HZb)
  clear HZb
  have HQ := Lib.hid h'
  have hloc := fun W => reflocal_any s W
  obtain ⟨ec, hec⟩ : ∃ ec, (localS s).2 = ec := ⟨_, rfl⟩
  obtain ⟨x, hx⟩ : ∃ x, (localS s).1 = x := ⟨_, rfl⟩
  have HNF := Lib.hid (And.intro hn (And.intro hfew (And.intro hX (And.intro hB (And.intro hv0 hv1)))))
  have hw : IntKind.u64.wrap (R.ver + 1) = R.ver + 1 := IntWalk.u64_in _ (by omega)
  rw [hec, hx] at hloc
  rw [hec, hx]
  have HL := Lib.hid hloc
  clear h h' hn hfew hloc hx hec hX hB hv0 hv1
  obtain ⟨we, hwe⟩ : ∃ we, wordsE l gs = we := ⟨_, rfl⟩
  rw [hwe] at HW ⊢
  clear hwe
  by_cases hc : ec = 0
  · rw [if_neg (by simpa using hc)]
    have q1 : (ec != 0) = false := by simp [hc]
    have q2 : (ec == 0) = true := by simp [hc]
    clear hc
    by_cases hc : we = 0
    · rw [if_neg (by simpa using hc)]
      have q3 : (we != 0) = false := by simp [hc]
      have q4 : (we == 0) = true := by simp [hc]
      clear hc
      obtain ⟨e, he⟩ : ∃ e, R.entry x = e := ⟨_, rfl⟩
      have hct := HQ.out.nm.entry x
      rw [he] at hct
      have HEE := Lib.hid he
      obtain ⟨contact, kept, name, groups, ⟨o, n, i, m⟩⟩ := e
      simp only at hct
      subst hct
      rw [HEE.out]
      cases kept with
      | true =>
        rw [if_neg (by simp)]
        go_enter Tryz.func43, Tryz.ntmps43
        go_wp2_with fail
        refine (HL.out _).mono ?_
        rintro r w1 ⟨rfl, hb1⟩
        have H1 := Lib.hid (And.intro (HZ.out.1.trans (hb1.mono (by simp))) (blk_below HZ.out.2 hb1 (by simp)))
        clear hb1 HZ HL
        go_wp2_with fail
        refine (HW.out _ H1.out.1).mono ?_
        rintro r w2 ⟨rfl, hb2⟩
        have H1 := Lib.hid (And.intro (H1.out.1.trans (hb2.mono H1.out.1.size)) (blk_below H1.out.2 hb2 (blk_lt H1.out.2)))
        clear hb2 HW
        have hfx := HNF.out.2.1.entry HQ.out.nm contact
        have HE := Lib.hid (q16entry_any (HQ.out.below H1.out.1) contact HNF.out.1 hfx)
        clear hfx
        go_wp2_with fail
        refine HE.out.mono ?_
        rintro r w3 ⟨⟨A, c, rfl, hg⟩, hb2⟩
        have H2 := Lib.hid (And.intro (H1.out.1.trans (hb2.mono H1.out.1.size)) (And.intro (blk_below H1.out.2 hb2 (blk_lt H1.out.2)) (hg.lower H1.out.1.size)))
        have zl := blk_lt H1.out.2
        have zs := hb2.size
        clear hb2 hg H1 HE
        rw [HEE.out] at H2 ⊢
        simp only [Ent.val] at H2 ⊢
        have B1 := blk_alloc H2.out.2.1 (.cells #[.string contact, .bool true, .string name, .slice A groups.length c, .int .i64 o, .int .u64 n, .int .i64 i, .int .u64 m] 54)
        have B2 := blk_new w3 (.cells #[.string contact, .bool true, .string name, .slice A groups.length c, .int .i64 o, .int .u64 n, .int .i64 i, .int .u64 m] 54)
        obtain ⟨y0, y1, y2, y3, y4, y5, y6, y7, g0, g1, g2, g3, g4, g5, g6, g7⟩ := cells8 B2
        have hbf := H2.out.1.alloc H2.out.1.size (.cells #[.string contact, .bool true, .string name, .slice A groups.length c, .int .i64 o, .int .u64 n, .int .i64 i, .int .u64 m] 54)
        have hal : Below w3.heap.size w3 (w3.alloc (.cells #[.string contact, .bool true, .string name, .slice A groups.length c, .int .i64 o, .int .u64 n, .int .i64 i, .int .u64 m] 54)) := (Below.refl _ _).alloc (Nat.le_refl _) _
        have hgf : Grp _ w.heap.size (.slice A groups.length c) groups := H2.out.2.2.below hal
        have HB := Lib.hid hbf
        clear H2 hal
        have HB2 := Lib.hid (And.intro B1 (And.intro B2 hgf))
        clear hbf hgf B1 B2

        go_wp2_with fail
        refine (HSO.out _ HB.out).mono ?_
        rintro r w5 ⟨⟨A5, c5, rfl, hs5⟩, hb5⟩
        have C1 := blk_below HB2.out.1 hb5 (blk_lt HB2.out.1)
        have C2 := blk_below HB2.out.2.1 hb5 (blk_lt HB2.out.2.1)
        have zC := blk_lt HB2.out.2.1
        obtain ⟨y0, y1, y2, y3, y4, y5, y6, y7, g0, g1, g2, g3, g4, g5, g6, g7⟩ := cells8 C2
        have hb5w : Below w.heap.size w w5 := HB.out.trans (hb5.mono HB.out.size)
        have hg5 : Grp w5 (w.heap.size + 1) (.slice A5 (sortG gs).length c5) (sortG gs) := (grp_of_seq hs5).lower (by simp; omega)
        have D2 := blk_set_same (blk_set_same (blk_set_same C2 1 (.bool true)) 2 (.string l)) 3 (.slice A5 (sortG gs).length c5)
        have D1 := blk_set_other (blk_set_other (blk_set_other C1 (a := (⟨w3.heap.size, 1, none⟩ : Addr)) (.bool true) (by show w.heap.size ≠ w3.heap.size; omega)) (a := (⟨w3.heap.size, 2, none⟩ : Addr)) (.string l) (by show w.heap.size ≠ w3.heap.size; omega)) (a := (⟨w3.heap.size, 3, none⟩ : Addr)) (.slice A5 (sortG gs).length c5) (by show w.heap.size ≠ w3.heap.size; omega)
        have hg6 := ((hg5.setT C2 (by decide) 1 (.bool true)).setT (blk_set_same C2 1 (.bool true)) (by decide) 2 (.string l)).setT (blk_set_same (blk_set_same C2 1 (.bool true)) 2 (.string l)) (by decide) 3 (.slice A5 (sortG gs).length c5)
        have hb6 : Below w.heap.size w (((w5.setCell ⟨w3.heap.size, 1, none⟩ (.bool true)).setCell ⟨w3.heap.size, 2, none⟩ (.string l)).setCell ⟨w3.heap.size, 3, none⟩ (.slice A5 (sortG gs).length c5)) := ((hb5w.setCell (by show w.heap.size ≤ w3.heap.size; omega) _).setCell (by show w.heap.size ≤ w3.heap.size; omega) _).setCell (by show w.heap.size ≤ w3.heap.size; omega) _
        simp only [List.setIfInBounds_toArray, List.set_cons_zero, List.set_cons_succ] at D2
        have HD := Lib.hid (And.intro D1 (And.intro D2 (And.intro hg6 hb6)))
        clear C1 C2 D1 D2 hg5 hg6 hb6 hb5 hs5 HB HB2 hb5w
        go_upto_region 10 with fail
        clear y0 g0 y1 g1 y2 g2 y3 g3 y4 g4 y5 g5 y6 g6 y7 g7
        generalize ((w5.setCell ⟨w3.heap.size, 1, none⟩ (.bool true)).setCell ⟨w3.heap.size, 2, none⟩ (.string l)).setCell ⟨w3.heap.size, 3, none⟩ (.slice A5 (sortG gs).length c5) = w6 at *
        obtain ⟨y0, y1, y2, y3, y4, y5, y6, y7, g0, g1, g2, g3, g4, g5, g6, g7⟩ := cells8 HD.out.2.1
        have HC := Lib.hid (q16set_any (HQ.out.below HD.out.2.2.2) (⟨contact, true, l, sortG gs, ⟨o, n, i, m⟩⟩ : Ent) (.slice A5 (sortG gs).length c5) ((HD.out.2.2.1.av (fun k hk => by
            rcases hk with hk | hk
            · have := HNF.out.2.2.1 k hk; omega
            · omega)).lower (Nat.le_trans HNF.out.2.2.2.1 (Nat.le_succ _))) (fun k hk => by
          rcases hk with hk | hk
          · have := HNF.out.2.2.1 k hk; have := HD.out.2.2.2.size; omega
          · have := blk_lt HD.out.1; omega) HNF.out.1 (Nat.le_trans HNF.out.2.2.2.1 HD.out.2.2.2.size))
        go_wp2_with fail
        refine HC.out.mono ?_
        rintro r w7 ⟨rfl, hq7, hu7⟩
        have C1 := blk_upd HD.out.1 hu7 (blk_lt HD.out.1) (by omega)
        have C2 := blk_upd HD.out.2.1 hu7 (blk_lt HD.out.2.1) (by omega)
        obtain ⟨vq, hvq, _⟩ := (HQ.out.below HD.out.2.2.2).box
        have hg7 := HD.out.2.2.1.updT hvq (by decide) hu7 (Nat.le_refl _)
        obtain ⟨v1, v2, v3, v4⟩ := RS.set_ver R (⟨contact, true, l, sortG gs, ⟨o, n, i, m⟩⟩ : Ent)
        obtain ⟨cv, cf, _⟩ := hq7.ver_cell
        rw [v1] at cv
        have D1 := blk_set_other C1 (a := (⟨qb, 2, none⟩ : Addr)) (.int .u64 (R.ver + 1)) (by show w.heap.size ≠ qb; omega)
        have D2 := blk_set_other C2 (a := (⟨qb, 2, none⟩ : Addr)) (.int .u64 (R.ver + 1)) (by show w3.heap.size ≠ qb; omega)
        have hq8 := hq7.setVer (R.ver + 1)
        obtain ⟨vq4, hvq4, _⟩ := hq7.box
        have hg8 := hg7.setT hvq4 (by decide) 2 (.int .u64 (R.ver + 1))
        have hu8 : Upd w.heap.size (fun k => k = qb) w (w7.setCell ⟨qb, 2, none⟩ (.int .u64 (R.ver + 1))) := Upd.setCell (ks := fun k => k = qb) ((Upd.of_below HD.out.2.2.2 (Nat.le_refl _)).trans hu7 HD.out.2.2.2.size) (a := (⟨qb, 2, none⟩ : Addr)) (.inl rfl) _
        have HF := Lib.hid (And.intro D1 (And.intro D2 (And.intro hq8 (And.intro hg8 hu8))))
        clear C1 C2 D1 D2 hq7 hq8 hg7 hg8 hu7 hu8 HC HD v1 v2 v3 v4 hvq hvq4
        clear y0 g0 y1 g1 y2 g2 y3 g3 y4 g4 y5 g5 y6 g6 y7 g7
        go_upto_region 12 with fail
        clear cv cf hw
        generalize w7.setCell ⟨qb, 2, none⟩ (.int .u64 (R.ver + 1)) = w8 at *
        obtain ⟨y0, y1, y2, y3, y4, y5, y6, y7, g0, g1, g2, g3, g4, g5, g6, g7⟩ := cells8 HF.out.2.1
        have HTW := Lib.hid (q16twin_any w8 (⟨contact, true, l, sortG gs, ⟨o, n, i, m⟩⟩ : Ent) (.slice A5 (sortG gs).length c5) HF.out.2.2.2.1.strs HSL.out)
        go_wp2_with fail
        refine HTW.out.mono ?_
        rintro r w9 ⟨⟨A8, c8, rfl, hg9⟩, hb9⟩
        have B1 := blk_below HF.out.1 hb9 (blk_lt HF.out.1)
        have hu9 : Upd w.heap.size (fun k => k = qb) w w9 := HF.out.2.2.2.2.trans (Upd.of_below hb9 HF.out.2.2.2.2.size) (Nat.le_refl _)
        have hq9 := HF.out.2.2.1.below hb9
        have BU := upd_set8 (w0 := w9) (B := w9.heap.size) (ks := fun k => k = w.heap.size) (b := w.heap.size) (Upd.refl _ _ _) (.inl rfl) (.string contact) (.bool true) (.string l) (.slice A8 (sortG gs).length c8) (.int .i64 o) (.int .u64 n) (.int .i64 i) (.int .u64 m)
        have hgr := (hg9.lower HF.out.2.2.2.2.size).updT B1 (by decide) BU (Nat.le_refl _)
        have hqr := hq9.set8 (b := w.heap.size) (.inr rfl) (by omega) (.string contact) (.bool true) (.string l) (.slice A8 (sortG gs).length c8) (.int .i64 o) (.int .u64 n) (.int .i64 i) (.int .u64 m)
        have hur := hu9.comp BU hu9.size (fun k hk e => by omega)
        have HFIN := Lib.hid (And.intro hgr (And.intro hqr hur))
        clear BU hgr hqr hur hb9 hg9 hu9 hq9 HTW HF
        clear y0 g0 y1 g1 y2 g2 y3 g3 y4 g4 y5 g5 y6 g6 y7 g7
        obtain ⟨x0, x1, x2, x3, x4, x5, x6, x7, f0, f1, f2, f3, f4, f5, f6, f7⟩ := cells8 B1
        have BB := blk_set8 B1 (.string contact) (.bool true) (.string l) (.slice A8 (sortG gs).length c8) (.int .i64 o) (.int .u64 n) (.int .i64 i) (.int .u64 m)
        clear B1
        go_wp2_with fail
        generalize ((((((((w9.setCell ⟨w.heap.size, 0, none⟩ (.string contact)).setCell ⟨w.heap.size, 1, none⟩ (.bool true)).setCell ⟨w.heap.size, 2, none⟩ (.string l)).setCell ⟨w.heap.size, 3, none⟩ (.slice A8 (sortG gs).length c8)).setCell ⟨w.heap.size, 4, none⟩ (.int .i64 o)).setCell ⟨w.heap.size, 5, none⟩ (.int .u64 n)).setCell ⟨w.heap.size, 6, none⟩ (.int .i64 i)).setCell ⟨w.heap.size, 7, none⟩ (.int .u64 m)) = WW at *
        have k0 := blk_cell BB 0
        have k1 := blk_cell BB 1
        have k2 := blk_cell BB 2
        have k3 := blk_cell BB 3
        have k4 := blk_cell BB 4
        have k5 := blk_cell BB 5
        have k6 := blk_cell BB 6
        have k7 := blk_cell BB 7
        simp [bodyPost, results, Tryz.results43, go_sem, k0, k1, k2, k3, k4, k5, k6, k7]
        exact ⟨⟨_, _, ⟨rfl, rfl⟩, HFIN.out.1⟩, ⟨HFIN.out.2.1.more (fun k hk => .inl (.inl hk)), HFIN.out.2.2⟩⟩
      | false =>
        by_cases hfu : (R.kept : Int) < R.items
        · rw [if_neg (by simp [hfu])]
          have hfl : decide (R.items ≤ ((R.kept : Nat) : Int)) = false := by simp; omega
          clear hfu
          go_enter Tryz.func43, Tryz.ntmps43
          go_wp2_with fail
          refine (HL.out _).mono ?_
          rintro r w1 ⟨rfl, hb1⟩
          have H1 := Lib.hid (And.intro (HZ.out.1.trans (hb1.mono (by simp))) (blk_below HZ.out.2 hb1 (by simp)))
          clear hb1 HZ HL
          go_wp2_with fail
          refine (HW.out _ H1.out.1).mono ?_
          rintro r w2 ⟨rfl, hb2⟩
          have H1 := Lib.hid (And.intro (H1.out.1.trans (hb2.mono H1.out.1.size)) (blk_below H1.out.2 hb2 (blk_lt H1.out.2)))
          clear hb2 HW
          have hfx := HNF.out.2.1.entry HQ.out.nm contact
          have HE := Lib.hid (q16entry_any (HQ.out.below H1.out.1) contact HNF.out.1 hfx)
          clear hfx
          go_wp2_with fail
          refine HE.out.mono ?_
          rintro r w3 ⟨⟨A, c, rfl, hg⟩, hb2⟩
          have H2 := Lib.hid (And.intro (H1.out.1.trans (hb2.mono H1.out.1.size)) (And.intro (blk_below H1.out.2 hb2 (blk_lt H1.out.2)) (hg.lower H1.out.1.size)))
          have zl := blk_lt H1.out.2
          have zs := hb2.size
          clear hb2 hg H1 HE
          rw [HEE.out] at H2 ⊢
          simp only [Ent.val] at H2 ⊢
          have B1 := blk_alloc H2.out.2.1 (.cells #[.string contact, .bool false, .string name, .slice A groups.length c, .int .i64 o, .int .u64 n, .int .i64 i, .int .u64 m] 54)
          have B2 := blk_new w3 (.cells #[.string contact, .bool false, .string name, .slice A groups.length c, .int .i64 o, .int .u64 n, .int .i64 i, .int .u64 m] 54)
          obtain ⟨y0, y1, y2, y3, y4, y5, y6, y7, g0, g1, g2, g3, g4, g5, g6, g7⟩ := cells8 B2
          have hbf := H2.out.1.alloc H2.out.1.size (.cells #[.string contact, .bool false, .string name, .slice A groups.length c, .int .i64 o, .int .u64 n, .int .i64 i, .int .u64 m] 54)
          have hal : Below w3.heap.size w3 (w3.alloc (.cells #[.string contact, .bool false, .string name, .slice A groups.length c, .int .i64 o, .int .u64 n, .int .i64 i, .int .u64 m] 54)) := (Below.refl _ _).alloc (Nat.le_refl _) _
          have hgf : Grp _ w.heap.size (.slice A groups.length c) groups := H2.out.2.2.below hal
          have HB := Lib.hid hbf
          clear H2 hal
          have HB2 := Lib.hid (And.intro B1 (And.intro B2 hgf))
          clear hbf hgf B1 B2
          have HFU := Lib.hid (q16full_any (HQ.out.below HB.out) HNF.out.1)
          rw [hfl] at HFU
          go_wp2_with fail
          refine HFU.out.mono ?_
          rintro r w4 ⟨rfl, hw4⟩
          obtain rfl := hw4.symm
          clear HFU hfl
          go_wp2_with fail
          refine (HSO.out _ HB.out).mono ?_
          rintro r w5 ⟨⟨A5, c5, rfl, hs5⟩, hb5⟩
          have C1 := blk_below HB2.out.1 hb5 (blk_lt HB2.out.1)
          have C2 := blk_below HB2.out.2.1 hb5 (blk_lt HB2.out.2.1)
          have zC := blk_lt HB2.out.2.1
          obtain ⟨y0, y1, y2, y3, y4, y5, y6, y7, g0, g1, g2, g3, g4, g5, g6, g7⟩ := cells8 C2
          have hb5w : Below w.heap.size w w5 := HB.out.trans (hb5.mono HB.out.size)
          have hg5 : Grp w5 (w.heap.size + 1) (.slice A5 (sortG gs).length c5) (sortG gs) := (grp_of_seq hs5).lower (by simp; omega)
          have D2 := blk_set_same (blk_set_same (blk_set_same C2 1 (.bool true)) 2 (.string l)) 3 (.slice A5 (sortG gs).length c5)
          have D1 := blk_set_other (blk_set_other (blk_set_other C1 (a := (⟨w3.heap.size, 1, none⟩ : Addr)) (.bool true) (by show w.heap.size ≠ w3.heap.size; omega)) (a := (⟨w3.heap.size, 2, none⟩ : Addr)) (.string l) (by show w.heap.size ≠ w3.heap.size; omega)) (a := (⟨w3.heap.size, 3, none⟩ : Addr)) (.slice A5 (sortG gs).length c5) (by show w.heap.size ≠ w3.heap.size; omega)
          have hg6 := ((hg5.setT C2 (by decide) 1 (.bool true)).setT (blk_set_same C2 1 (.bool true)) (by decide) 2 (.string l)).setT (blk_set_same (blk_set_same C2 1 (.bool true)) 2 (.string l)) (by decide) 3 (.slice A5 (sortG gs).length c5)
          have hb6 : Below w.heap.size w (((w5.setCell ⟨w3.heap.size, 1, none⟩ (.bool true)).setCell ⟨w3.heap.size, 2, none⟩ (.string l)).setCell ⟨w3.heap.size, 3, none⟩ (.slice A5 (sortG gs).length c5)) := ((hb5w.setCell (by show w.heap.size ≤ w3.heap.size; omega) _).setCell (by show w.heap.size ≤ w3.heap.size; omega) _).setCell (by show w.heap.size ≤ w3.heap.size; omega) _
          simp only [List.setIfInBounds_toArray, List.set_cons_zero, List.set_cons_succ] at D2
          have HD := Lib.hid (And.intro D1 (And.intro D2 (And.intro hg6 hb6)))
          clear C1 C2 D1 D2 hg5 hg6 hb6 hb5 hs5 HB HB2 hb5w
          go_upto_region 10 with fail
          clear y0 g0 y1 g1 y2 g2 y3 g3 y4 g4 y5 g5 y6 g6 y7 g7
          generalize ((w5.setCell ⟨w3.heap.size, 1, none⟩ (.bool true)).setCell ⟨w3.heap.size, 2, none⟩ (.string l)).setCell ⟨w3.heap.size, 3, none⟩ (.slice A5 (sortG gs).length c5) = w6 at *
          obtain ⟨y0, y1, y2, y3, y4, y5, y6, y7, g0, g1, g2, g3, g4, g5, g6, g7⟩ := cells8 HD.out.2.1
          have HC := Lib.hid (q16set_any (HQ.out.below HD.out.2.2.2) (⟨contact, true, l, sortG gs, ⟨o, n, i, m⟩⟩ : Ent) (.slice A5 (sortG gs).length c5) ((HD.out.2.2.1.av (fun k hk => by
              rcases hk with hk | hk
              · have := HNF.out.2.2.1 k hk; omega
              · omega)).lower (Nat.le_trans HNF.out.2.2.2.1 (Nat.le_succ _))) (fun k hk => by
            rcases hk with hk | hk
            · have := HNF.out.2.2.1 k hk; have := HD.out.2.2.2.size; omega
            · have := blk_lt HD.out.1; omega) HNF.out.1 (Nat.le_trans HNF.out.2.2.2.1 HD.out.2.2.2.size))
          go_wp2_with fail
          refine HC.out.mono ?_
          rintro r w7 ⟨rfl, hq7, hu7⟩
          have C1 := blk_upd HD.out.1 hu7 (blk_lt HD.out.1) (by omega)
          have C2 := blk_upd HD.out.2.1 hu7 (blk_lt HD.out.2.1) (by omega)
          obtain ⟨vq, hvq, _⟩ := (HQ.out.below HD.out.2.2.2).box
          have hg7 := HD.out.2.2.1.updT hvq (by decide) hu7 (Nat.le_refl _)
          obtain ⟨v1, v2, v3, v4⟩ := RS.set_ver R (⟨contact, true, l, sortG gs, ⟨o, n, i, m⟩⟩ : Ent)
          obtain ⟨cv, cf, _⟩ := hq7.ver_cell
          rw [v1] at cv
          have D1 := blk_set_other C1 (a := (⟨qb, 2, none⟩ : Addr)) (.int .u64 (R.ver + 1)) (by show w.heap.size ≠ qb; omega)
          have D2 := blk_set_other C2 (a := (⟨qb, 2, none⟩ : Addr)) (.int .u64 (R.ver + 1)) (by show w3.heap.size ≠ qb; omega)
          have hq8 := hq7.setVer (R.ver + 1)
          obtain ⟨vq4, hvq4, _⟩ := hq7.box
          have hg8 := hg7.setT hvq4 (by decide) 2 (.int .u64 (R.ver + 1))
          have hu8 : Upd w.heap.size (fun k => k = qb) w (w7.setCell ⟨qb, 2, none⟩ (.int .u64 (R.ver + 1))) := Upd.setCell (ks := fun k => k = qb) ((Upd.of_below HD.out.2.2.2 (Nat.le_refl _)).trans hu7 HD.out.2.2.2.size) (a := (⟨qb, 2, none⟩ : Addr)) (.inl rfl) _
          have HF := Lib.hid (And.intro D1 (And.intro D2 (And.intro hq8 (And.intro hg8 hu8))))
          clear C1 C2 D1 D2 hq7 hq8 hg7 hg8 hu7 hu8 HC HD v1 v2 v3 v4 hvq hvq4
          clear y0 g0 y1 g1 y2 g2 y3 g3 y4 g4 y5 g5 y6 g6 y7 g7
          go_upto_region 12 with fail
          clear cv cf hw
          generalize w7.setCell ⟨qb, 2, none⟩ (.int .u64 (R.ver + 1)) = w8 at *
          obtain ⟨y0, y1, y2, y3, y4, y5, y6, y7, g0, g1, g2, g3, g4, g5, g6, g7⟩ := cells8 HF.out.2.1
          have HTW := Lib.hid (q16twin_any w8 (⟨contact, true, l, sortG gs, ⟨o, n, i, m⟩⟩ : Ent) (.slice A5 (sortG gs).length c5) HF.out.2.2.2.1.strs HSL.out)
          go_wp2_with fail
          refine HTW.out.mono ?_
          rintro r w9 ⟨⟨A8, c8, rfl, hg9⟩, hb9⟩
          have B1 := blk_below HF.out.1 hb9 (blk_lt HF.out.1)
          have hu9 : Upd w.heap.size (fun k => k = qb) w w9 := HF.out.2.2.2.2.trans (Upd.of_below hb9 HF.out.2.2.2.2.size) (Nat.le_refl _)
          have hq9 := HF.out.2.2.1.below hb9
          have BU := upd_set8 (w0 := w9) (B := w9.heap.size) (ks := fun k => k = w.heap.size) (b := w.heap.size) (Upd.refl _ _ _) (.inl rfl) (.string contact) (.bool true) (.string l) (.slice A8 (sortG gs).length c8) (.int .i64 o) (.int .u64 n) (.int .i64 i) (.int .u64 m)
          have hgr := (hg9.lower HF.out.2.2.2.2.size).updT B1 (by decide) BU (Nat.le_refl _)
          have hqr := hq9.set8 (b := w.heap.size) (.inr rfl) (by omega) (.string contact) (.bool true) (.string l) (.slice A8 (sortG gs).length c8) (.int .i64 o) (.int .u64 n) (.int .i64 i) (.int .u64 m)
          have hur := hu9.comp BU hu9.size (fun k hk e => by omega)
          have HFIN := Lib.hid (And.intro hgr (And.intro hqr hur))
          clear BU hgr hqr hur hb9 hg9 hu9 hq9 HTW HF
          clear y0 g0 y1 g1 y2 g2 y3 g3 y4 g4 y5 g5 y6 g6 y7 g7
          obtain ⟨x0, x1, x2, x3, x4, x5, x6, x7, f0, f1, f2, f3, f4, f5, f6, f7⟩ := cells8 B1
          have BB := blk_set8 B1 (.string contact) (.bool true) (.string l) (.slice A8 (sortG gs).length c8) (.int .i64 o) (.int .u64 n) (.int .i64 i) (.int .u64 m)
          clear B1
          go_wp2_with fail
          generalize ((((((((w9.setCell ⟨w.heap.size, 0, none⟩ (.string contact)).setCell ⟨w.heap.size, 1, none⟩ (.bool true)).setCell ⟨w.heap.size, 2, none⟩ (.string l)).setCell ⟨w.heap.size, 3, none⟩ (.slice A8 (sortG gs).length c8)).setCell ⟨w.heap.size, 4, none⟩ (.int .i64 o)).setCell ⟨w.heap.size, 5, none⟩ (.int .u64 n)).setCell ⟨w.heap.size, 6, none⟩ (.int .i64 i)).setCell ⟨w.heap.size, 7, none⟩ (.int .u64 m)) = WW at *
          have k0 := blk_cell BB 0
          have k1 := blk_cell BB 1
          have k2 := blk_cell BB 2
          have k3 := blk_cell BB 3
          have k4 := blk_cell BB 4
          have k5 := blk_cell BB 5
          have k6 := blk_cell BB 6
          have k7 := blk_cell BB 7
          simp [bodyPost, results, Tryz.results43, go_sem, k0, k1, k2, k3, k4, k5, k6, k7]
          exact ⟨⟨_, _, ⟨rfl, rfl⟩, HFIN.out.1⟩, ⟨HFIN.out.2.1.more (fun k hk => .inl (.inl hk)), HFIN.out.2.2⟩⟩
        · rw [if_pos ⟨rfl, hfu⟩]
          have hfl : decide (R.items ≤ ((R.kept : Nat) : Int)) = true := by simp; omega
          clear hfu
          go_enter Tryz.func43, Tryz.ntmps43
          go_wp2_with fail
          refine (HL.out _).mono ?_
          rintro r w1 ⟨rfl, hb1⟩
          have H1 := Lib.hid (And.intro (HZ.out.1.trans (hb1.mono (by simp))) (blk_below HZ.out.2 hb1 (by simp)))
          clear hb1 HZ HL
          go_wp2_with fail
          refine (HW.out _ H1.out.1).mono ?_
          rintro r w2 ⟨rfl, hb2⟩
          have H1 := Lib.hid (And.intro (H1.out.1.trans (hb2.mono H1.out.1.size)) (blk_below H1.out.2 hb2 (blk_lt H1.out.2)))
          clear hb2 HW
          have hfx := HNF.out.2.1.entry HQ.out.nm contact
          have HE := Lib.hid (q16entry_any (HQ.out.below H1.out.1) contact HNF.out.1 hfx)
          clear hfx
          go_wp2_with fail
          refine HE.out.mono ?_
          rintro r w3 ⟨⟨A, c, rfl, hg⟩, hb2⟩
          have H2 := Lib.hid (And.intro (H1.out.1.trans (hb2.mono H1.out.1.size)) (And.intro (blk_below H1.out.2 hb2 (blk_lt H1.out.2)) (hg.lower H1.out.1.size)))
          have zl := blk_lt H1.out.2
          have zs := hb2.size
          clear hb2 hg H1 HE
          rw [HEE.out] at H2 ⊢
          simp only [Ent.val] at H2 ⊢
          have B1 := blk_alloc H2.out.2.1 (.cells #[.string contact, .bool false, .string name, .slice A groups.length c, .int .i64 o, .int .u64 n, .int .i64 i, .int .u64 m] 54)
          have B2 := blk_new w3 (.cells #[.string contact, .bool false, .string name, .slice A groups.length c, .int .i64 o, .int .u64 n, .int .i64 i, .int .u64 m] 54)
          obtain ⟨y0, y1, y2, y3, y4, y5, y6, y7, g0, g1, g2, g3, g4, g5, g6, g7⟩ := cells8 B2
          have hbf := H2.out.1.alloc H2.out.1.size (.cells #[.string contact, .bool false, .string name, .slice A groups.length c, .int .i64 o, .int .u64 n, .int .i64 i, .int .u64 m] 54)
          have hal : Below w3.heap.size w3 (w3.alloc (.cells #[.string contact, .bool false, .string name, .slice A groups.length c, .int .i64 o, .int .u64 n, .int .i64 i, .int .u64 m] 54)) := (Below.refl _ _).alloc (Nat.le_refl _) _
          have hgf : Grp _ w.heap.size (.slice A groups.length c) groups := H2.out.2.2.below hal
          have HB := Lib.hid hbf
          clear H2 hal
          clear hgf hbf B2
          have HFU := Lib.hid (q16full_any (HQ.out.below HB.out) HNF.out.1)
          rw [hfl] at HFU
          go_wp2_with fail
          refine HFU.out.mono ?_
          rintro r w4 ⟨rfl, hw4⟩
          obtain rfl := hw4.symm
          clear HFU hfl
          obtain ⟨x0, x1, x2, x3, x4, x5, x6, x7, f0, f1, f2, f3, f4, f5, f6, f7⟩ := cells8 B1
          have BB := blk_set8 B1 (.string ⟨#[]⟩) (.bool false) (.string ⟨#[]⟩) (.slice none 0 0) (.int .i64 0) (.int .u64 0) (.int .i64 0) (.int .u64 0)
          have BL := Lib.hid (below_set8 HB.out (b := w.heap.size) (Nat.le_refl _) (.string ⟨#[]⟩) (.bool false) (.string ⟨#[]⟩) (.slice none 0 0) (.int .i64 0) (.int .u64 0) (.int .i64 0) (.int .u64 0))
          clear B1
          go_wp2_with fail
          generalize (((((((((w3.alloc (.cells #[.string contact, .bool false, .string name, .slice A groups.length c, .int .i64 o, .int .u64 n, .int .i64 i, .int .u64 m] 54)).setCell ⟨w.heap.size, 0, none⟩ (.string ⟨#[]⟩)).setCell ⟨w.heap.size, 1, none⟩ (.bool false)).setCell ⟨w.heap.size, 2, none⟩ (.string ⟨#[]⟩)).setCell ⟨w.heap.size, 3, none⟩ (.slice none 0 0)).setCell ⟨w.heap.size, 4, none⟩ (.int .i64 0)).setCell ⟨w.heap.size, 5, none⟩ (.int .u64 0)).setCell ⟨w.heap.size, 6, none⟩ (.int .i64 0)).setCell ⟨w.heap.size, 7, none⟩ (.int .u64 0)) = WW at *
          have k0 := blk_cell BB 0
          have k1 := blk_cell BB 1
          have k2 := blk_cell BB 2
          have k3 := blk_cell BB 3
          have k4 := blk_cell BB 4
          have k5 := blk_cell BB 5
          have k6 := blk_cell BB 6
          have k7 := blk_cell BB 7
          simp [bodyPost, results, Tryz.results43, go_sem, k0, k1, k2, k3, k4, k5, k6, k7]
          exact ⟨⟨none, 0, by simp [Ent.zero], Grp.nil _ _⟩, QDone.same (HQ.out.more (fun k hk => .inl (.inl hk))) BL.out⟩
    · rw [if_pos (by simpa using hc)]
      have q3 : (we != 0) = true := by simp [hc]
      have q4 : (we == 0) = false := by simp [hc]
      clear hc
      go_enter Tryz.func43, Tryz.ntmps43
      go_wp2_with fail
      refine (HL.out _).mono ?_
      rintro r w1 ⟨rfl, hb1⟩
      have H1 := Lib.hid (And.intro (HZ.out.1.trans (hb1.mono (by simp))) (blk_below HZ.out.2 hb1 (by simp)))
      clear hb1 HZ HL
      go_wp2_with fail
      refine (HW.out _ H1.out.1).mono ?_
      rintro r w2 ⟨rfl, hb2⟩
      have H1 := Lib.hid (And.intro (H1.out.1.trans (hb2.mono H1.out.1.size)) (blk_below H1.out.2 hb2 (blk_lt H1.out.2)))
      clear hb2 HW
      have HB := Lib.hid H1.out.1
      have B1 := H1.out.2
      obtain ⟨x0, x1, x2, x3, x4, x5, x6, x7, f0, f1, f2, f3, f4, f5, f6, f7⟩ := cells8 B1
      have BB := blk_set8 B1 (.string ⟨#[]⟩) (.bool false) (.string ⟨#[]⟩) (.slice none 0 0) (.int .i64 0) (.int .u64 0) (.int .i64 0) (.int .u64 0)
      have BL := Lib.hid (below_set8 HB.out (b := w.heap.size) (Nat.le_refl _) (.string ⟨#[]⟩) (.bool false) (.string ⟨#[]⟩) (.slice none 0 0) (.int .i64 0) (.int .u64 0) (.int .i64 0) (.int .u64 0))
      clear B1
      go_wp2_with fail
      generalize ((((((((w2.setCell ⟨w.heap.size, 0, none⟩ (.string ⟨#[]⟩)).setCell ⟨w.heap.size, 1, none⟩ (.bool false)).setCell ⟨w.heap.size, 2, none⟩ (.string ⟨#[]⟩)).setCell ⟨w.heap.size, 3, none⟩ (.slice none 0 0)).setCell ⟨w.heap.size, 4, none⟩ (.int .i64 0)).setCell ⟨w.heap.size, 5, none⟩ (.int .u64 0)).setCell ⟨w.heap.size, 6, none⟩ (.int .i64 0)).setCell ⟨w.heap.size, 7, none⟩ (.int .u64 0)) = WW at *
      have k0 := blk_cell BB 0
      have k1 := blk_cell BB 1
      have k2 := blk_cell BB 2
      have k3 := blk_cell BB 3
      have k4 := blk_cell BB 4
      have k5 := blk_cell BB 5
      have k6 := blk_cell BB 6
      have k7 := blk_cell BB 7
      simp [bodyPost, results, Tryz.results43, go_sem, k0, k1, k2, k3, k4, k5, k6, k7]
      exact ⟨⟨none, 0, by simp [Ent.zero], Grp.nil _ _⟩, QDone.same (HQ.out.more (fun k hk => .inl (.inl hk))) BL.out⟩
  · rw [if_pos (by simpa using hc)]
    have q1 : (ec != 0) = true := by simp [hc]
    have q2 : (ec == 0) = false := by simp [hc]
    clear hc
    go_enter Tryz.func43, Tryz.ntmps43
    go_wp2_with fail
    refine (HL.out _).mono ?_
    rintro r w1 ⟨rfl, hb1⟩
    have H1 := Lib.hid (And.intro (HZ.out.1.trans (hb1.mono (by simp))) (blk_below HZ.out.2 hb1 (by simp)))
    clear hb1 HZ HL
    have HB := Lib.hid H1.out.1
    have B1 := H1.out.2
    obtain ⟨x0, x1, x2, x3, x4, x5, x6, x7, f0, f1, f2, f3, f4, f5, f6, f7⟩ := cells8 B1
    have BB := blk_set8 B1 (.string ⟨#[]⟩) (.bool false) (.string ⟨#[]⟩) (.slice none 0 0) (.int .i64 0) (.int .u64 0) (.int .i64 0) (.int .u64 0)
    have BL := Lib.hid (below_set8 HB.out (b := w.heap.size) (Nat.le_refl _) (.string ⟨#[]⟩) (.bool false) (.string ⟨#[]⟩) (.slice none 0 0) (.int .i64 0) (.int .u64 0) (.int .i64 0) (.int .u64 0))
    clear B1
    go_wp2_with fail
    generalize ((((((((w1.setCell ⟨w.heap.size, 0, none⟩ (.string ⟨#[]⟩)).setCell ⟨w.heap.size, 1, none⟩ (.bool false)).setCell ⟨w.heap.size, 2, none⟩ (.string ⟨#[]⟩)).setCell ⟨w.heap.size, 3, none⟩ (.slice none 0 0)).setCell ⟨w.heap.size, 4, none⟩ (.int .i64 0)).setCell ⟨w.heap.size, 5, none⟩ (.int .u64 0)).setCell ⟨w.heap.size, 6, none⟩ (.int .i64 0)).setCell ⟨w.heap.size, 7, none⟩ (.int .u64 0)) = WW at *
    have k0 := blk_cell BB 0
    have k1 := blk_cell BB 1
    have k2 := blk_cell BB 2
    have k3 := blk_cell BB 3
    have k4 := blk_cell BB 4
    have k5 := blk_cell BB 5
    have k6 := blk_cell BB 6
    have k7 := blk_cell BB 7
    simp [bodyPost, results, Tryz.results43, go_sem, k0, k1, k2, k3, k4, k5, k6, k7]
    exact ⟨⟨none, 0, by simp [Ent.zero], Grp.nil _ _⟩, QDone.same (HQ.out.more (fun k hk => .inl (.inl hk))) BL.out⟩

end Go.Proofs.YthbjcihdlhkboaaGreatDoor
