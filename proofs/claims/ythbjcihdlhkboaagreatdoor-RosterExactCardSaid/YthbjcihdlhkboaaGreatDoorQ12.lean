/- Laying an entry into a roster. -/
import Derived.Deep.RegionHeld3
import Derived.Test.YthbjcihdlhkboaaGreatDoorQ11
namespace Go.Proofs.YthbjcihdlhkboaaGreatDoor
set_option linter.unusedSimpArgs false
set_option linter.unusedVariables false
open Go.RowKit Go.Maps Go.Shelf Go.Lib

/-- What the map's look-up of a contact hands back, without a word on whether it is there. -/
theorem RoAtK.was {w : World} {B rb mb n : Nat} {D : DataW Value} {R : RS} {kc : Int} (h : RoAtK w B rb mb n D R kc) (s : ByteArray) (hs : s.size ≤ maxLen) :
    ∃ (q : Ent) (A : Option Addr) (c : Nat), (Instr.lookup 109 (.map (some mb)) (.string s) false).run Tryz.prog w = .ok (q.val (.slice A q.groups.length c)) w ∧ R.wasKept s = q.kept := by
  rcases h.look s hs with ⟨hg, _, l⟩ | ⟨A, c, e, hg, _, l, _, _⟩
  · exact ⟨Ent.new ⟨#[]⟩, none, 0, l, by unfold RS.wasKept; rw [hg]; rfl⟩
  · exact ⟨e, A, c, l, by unfold RS.wasKept; rw [hg]; rfl⟩

theorem Strs.field {w : World} {B rb mb n : Nat} {D : DataW Value} {R : RS} {kc : Int} (h : RoAtK w B rb mb n D R kc) {v : Value} {gs : List ByteArray} (hg : Strs w v gs) (j : Nat) (x : Value) : Strs (w.setCell ⟨rb, j, none⟩ x) v gs := by
  obtain ⟨⟨A, cap, hv, hf⟩, hl⟩ := hg
  refine ⟨⟨A, cap, hv, fun h0 => ?_⟩, hl⟩
  obtain ⟨b, off, hA, hlt, hc⟩ := hf h0
  have hne : b ≠ rb := by
    rintro rfl
    have h1 := hc 0 h0
    rw [blk_cell h.cells] at h1
    match off, h1 with
    | 0, h1 => simp at h1
    | 1, h1 => simp at h1
    | 2, h1 => simp at h1
    | 3, h1 => simp at h1
    | 4, h1 => simp at h1
    | 5, h1 => simp at h1
    | k + 6, h1 => simp at h1
  refine ⟨b, off, hA, by simpa using hlt, fun i hi => ?_⟩
  rw [World.cell?_setCell_other _ _ _ _ (by intro e; exact hne (congrArg Addr.block e).symm)]
  exact hc i hi

set_option maxRecDepth 100000 in
set_option maxHeartbeats 4000000 in
theorem rset_a {w : World} {B rb mb n : Nat} {D : DataW Value} {R : RS} (h : RoAt w B rb mb n D R) (e : Ent) (g : Value) (hg : Strs w g e.groups) (hl : e.groups.length ≤ 1000000) (hs : e.contact.size ≤ maxLen) (hn : n ≤ 1000000) (hBw : B ≤ w.heap.size)
    (hwas : R.wasKept e.contact = true) (hkept : e.kept = true) :
    Calls Tryz.prog 65 #[.pointer (some ⟨rb, 0, none⟩), e.val g] w fun r w' => r = .returned (.tuple #[]) ∧ (∃ D', RoAt w' B rb mb (n + 1) D' (R.put e.contact e)) ∧ Upd w.heap.size (fun k => k = rb ∨ k = mb) w w' := by
  obtain ⟨contact, kept, name, groups, ⟨o, hn', i, m⟩⟩ := e
  simp only at hl hs hwas hkept hg ⊢
  
  subst hkept
  obtain ⟨GA, gc, hv⟩ : ∃ A cap, g = .slice A groups.length cap := let ⟨⟨A, cap, h, _⟩, _⟩ := hg; ⟨A, cap, h⟩
  subst hv
  have hcnt := RS.put_count h.apart contact ⟨contact, true, name, groups, ⟨o, hn', i, m⟩⟩
  have hkl : R.kept ≤ 1000000 := by have := R.kept_le; have := h.own.size_le; rw [h.size] at this; omega
  have hwk := RS.wasKept_le (R := R) contact
  rw [hwas] at hcnt hwk
  simp only [if_true, if_false, Bool.false_eq_true] at hcnt hwk
  have hlt := h.lt
  obtain ⟨WB, hWB⟩ : ∃ WB, (w.alloc (.cells #[.string contact, .bool true, .string name, .slice GA groups.length gc, .int .i64 o, .int .u64 hn', .int .i64 i, .int .u64 m] 54)) = WB := ⟨_, rfl⟩
  have hBW : Below w.heap.size w WB := by rw [← hWB]; exact (Below.refl _ _).alloc (Nat.le_refl _) _
  have BX : WB.heap[w.heap.size]? = some (.cells #[.string contact, .bool true, .string name, .slice GA groups.length gc, .int .i64 o, .int .u64 hn', .int .i64 i, .int .u64 m] 54) := by rw [← hWB]; exact blk_new _ _
  have h1 := (h.below hBW).below ((Below.refl _ _).drew)
  obtain ⟨q, QA, qc, l1, hq⟩ := h1.was contact hs
  rw [hwas] at hq
  obtain ⟨qcontact, qkept, qname, qgroups, ⟨qo, qn, qi, qm⟩⟩ := q
  simp only [Ent.val] at hq l1
  subst hq
  have r4 : WB.cell? ⟨rb, 4, none⟩ = some (.map (some mb)) := blk_cell h1.cells 4
  have r5 : WB.cell? ⟨rb, 5, none⟩ = some (.int .i64 (R.kept : Nat)) := blk_cell h1.cells 5
  have rz5 : WB.frozen? ⟨rb, 5, none⟩ = false := blk_frozen h1.cells 5
  have hx0 : WB.cell? ⟨w.heap.size, 0, none⟩ = some (.string contact) := blk_cell BX 0
  have hx1 : WB.cell? ⟨w.heap.size, 1, none⟩ = some (.bool true) := blk_cell BX 1
  have hx2 : WB.cell? ⟨w.heap.size, 2, none⟩ = some (.string name) := blk_cell BX 2
  have hx3 : WB.cell? ⟨w.heap.size, 3, none⟩ = some (.slice GA groups.length gc) := blk_cell BX 3
  have hx4 : WB.cell? ⟨w.heap.size, 4, none⟩ = some (.int .i64 o) := blk_cell BX 4
  have hx5 : WB.cell? ⟨w.heap.size, 5, none⟩ = some (.int .u64 hn') := blk_cell BX 5
  have hx6 : WB.cell? ⟨w.heap.size, 6, none⟩ = some (.int .i64 i) := blk_cell BX 6
  have hx7 : WB.cell? ⟨w.heap.size, 7, none⟩ = some (.int .u64 m) := blk_cell BX 7
  obtain ⟨K, hK⟩ : ∃ K, R.kept = K := ⟨_, rfl⟩
  rw [hK] at r5 hcnt hkl hwk h1
  have wr1 : IntKind.i64.wrap ((K : Int) - 1) = (K : Int) - 1 := IntWalk.i64_in _ (by omega)
  have wr2 : IntKind.i64.wrap ((K : Int) + 1) = (K : Int) + 1 := IntWalk.i64_in _ (by omega)
  have wr3 : IntKind.i64.wrap ((K : Int) - 1 + 1) = (K : Int) := by rw [show (K : Int) - 1 + 1 = K by omega]; exact IntWalk.i64_in _ (by omega)
  have hf : ∀ w, (Instr.field 54 (.agg #[.string qcontact, .bool true, .string qname, .slice QA qgroups.length qc, .int .i64 qo, .int .u64 qn, .int .i64 qi, .int .u64 qm]) 1).run Tryz.prog w = .ok (.bool true) w := fun _ => by kernel_rfl
  have HU0 : Upd w.heap.size (fun k => k = rb ∨ k = mb) w WB := Upd.of_below hBW (Nat.le_refl _)
  have hz0 : RoAtK WB B rb mb n D R (K : Int) := by rw [← hK]; exact h.below hBW
  have hgs0 := hg.below hBW
  have hz1 : RoAtK (WB.setCell ⟨rb, 5, none⟩ (.int .i64 ((K : Int) - 1))) B rb mb n D R ((K : Int) - 1) := hz0.field 5 _ rfl rfl
  have HU1 : Upd w.heap.size (fun k => k = rb ∨ k = mb) w (WB.setCell ⟨rb, 5, none⟩ (.int .i64 ((K : Int) - 1))) := HU0.setCell (.inl (.inl rfl)) _
  have BX1 := blk_set_other BX (a := (⟨rb, 5, none⟩ : Addr)) (.int .i64 ((K : Int) - 1)) (by show w.heap.size ≠ rb; omega)
  have hgs1 := Strs.field hz0 hgs0 5 (.int .i64 ((K : Int) - 1))
  have hz2 : RoAtK ((WB.setCell ⟨rb, 5, none⟩ (.int .i64 ((K : Int) - 1))).setCell ⟨rb, 5, none⟩ (.int .i64 ((K : Int)))) B rb mb n D R ((K : Int)) := hz1.field 5 _ rfl rfl
  have HU2 : Upd w.heap.size (fun k => k = rb ∨ k = mb) w ((WB.setCell ⟨rb, 5, none⟩ (.int .i64 ((K : Int) - 1))).setCell ⟨rb, 5, none⟩ (.int .i64 ((K : Int)))) := HU1.setCell (.inl (.inl rfl)) _
  have BX2 := blk_set_other BX1 (a := (⟨rb, 5, none⟩ : Addr)) (.int .i64 ((K : Int))) (by show w.heap.size ≠ rb; omega)
  have hgs2 := Strs.field hz1 hgs1 5 (.int .i64 ((K : Int)))
  have BZ := blk_drew BX2
  have hgsZ := hgs2.below ((Below.refl _ _).drew)
  have HZ := Lib.hid (And.intro (hz2.below ((Below.refl _ _).drew)) (And.intro (HU2.drew) (And.intro BZ hgsZ)))
  have HC := Lib.hid (And.intro hcnt (And.intro hl (And.intro hs hn)))
  clear hz0 hcnt hl hs HU0 hwas h1 BX hg h hBW
  go_enter Tryz.func65, Tryz.ntmps65
  go_wp2_with fail
  go_region
  go_wp2_with fail
  generalize hwz : ((WB.setCell ⟨rb, 5, none⟩ (.int .i64 ((K : Int) - 1))).setCell ⟨rb, 5, none⟩ (.int .i64 ((K : Int)))).drew = wz at HZ ⊢
  clear hwz hx0 hx1 hx2 hx3 hx4 hx5 hx6 hx7 r4 r5 rz5 hf wr1 wr2 wr3 l1 hWB
  have c4 : wz.cell? ⟨rb, 4, none⟩ = some (.map (some mb)) := blk_cell HZ.out.1.cells 4
  have hx0 : wz.cell? ⟨w.heap.size, 0, none⟩ = some (.string contact) := blk_cell HZ.out.2.2.1 0
  have hx1 : wz.cell? ⟨w.heap.size, 1, none⟩ = some (.bool true) := blk_cell HZ.out.2.2.1 1
  have hx2 : wz.cell? ⟨w.heap.size, 2, none⟩ = some (.string name) := blk_cell HZ.out.2.2.1 2
  have hx3 : wz.cell? ⟨w.heap.size, 3, none⟩ = some (.slice GA groups.length gc) := blk_cell HZ.out.2.2.1 3
  have hx4 : wz.cell? ⟨w.heap.size, 4, none⟩ = some (.int .i64 o) := blk_cell HZ.out.2.2.1 4
  have hx5 : wz.cell? ⟨w.heap.size, 5, none⟩ = some (.int .u64 hn') := blk_cell HZ.out.2.2.1 5
  have hx6 : wz.cell? ⟨w.heap.size, 6, none⟩ = some (.int .i64 i) := blk_cell HZ.out.2.2.1 6
  have hx7 : wz.cell? ⟨w.heap.size, 7, none⟩ = some (.int .u64 m) := blk_cell HZ.out.2.2.1 7
  have hltz := HZ.out.1.lt
  have hnez := HZ.out.1.ne
  have hltb := blk_lt HZ.out.2.2.1
  have HT := Lib.hid (fun W (hW : Below wz.heap.size wz W) => rtwin_any W (⟨contact, true, name, groups, ⟨o, hn', i, m⟩⟩ : Ent) _ (HZ.out.2.2.2.below hW) HC.out.2.1)
  go_region_held3 (fun w' => Upd wz.heap.size (fun k => k = mb) wz w' ∧ wz.heap.size ≤ w'.heap.size ∧ w'.cell? ⟨rb, 4, none⟩ = some (.map (some mb)) ∧ w'.cell? ⟨w.heap.size, 0, none⟩ = some (.string contact) ∧ w'.cell? ⟨w.heap.size, 1, none⟩ = some (.bool true) ∧ w'.cell? ⟨w.heap.size, 2, none⟩ = some (.string name) ∧ w'.cell? ⟨w.heap.size, 3, none⟩ = some (.slice GA groups.length gc) ∧ w'.cell? ⟨w.heap.size, 4, none⟩ = some (.int .i64 o) ∧ w'.cell? ⟨w.heap.size, 5, none⟩ = some (.int .u64 hn') ∧ w'.cell? ⟨w.heap.size, 6, none⟩ = some (.int .i64 i) ∧ w'.cell? ⟨w.heap.size, 7, none⟩ = some (.int .u64 m))
    (first
      | exact ⟨(Upd.refl _ _ _).drew, Nat.le_refl _, c4, hx0, hx1, hx2, hx3, hx4, hx5, hx6, hx7⟩
      | (go_split_ands; refine ⟨Upd.of_below hZ (Nat.le_refl _), hZ.size, ?_, ?_, ?_, ?_, ?_, ?_, ?_, ?_, ?_⟩ <;> (refine (hZ.cell (by first | (simp; done) | (simp; omega) | (dsimp only; omega))).trans ?_; assumption))
      | (go_split_ands; refine ⟨(Upd.of_below hZ (Nat.le_refl _)).trans (Upd.of_grown hgr7 rfl (Nat.le_refl _)) (hZ.size), Nat.le_trans hZ.size hgr7.size, ?_, ?_, ?_, ?_, ?_, ?_, ?_, ?_, ?_⟩ <;> (rw [hgr7.cell_far _ (by have := hZ.size; first | (simp; done) | (simp; omega) | (dsimp only; omega)) (by simp; omega)]; assumption)))
    (first
      | (go_at_call 111; refine (HT.out _ ((Below.refl _ _).drew)).mono ?_; rintro r w' ⟨⟨A, c, rfl, hgr⟩, hbc⟩; have hZ : Below wz.heap.size wz w' := Below.trans ((Below.refl _ _).drew) (hbc.mono (Nat.le_refl _)))
      | (go_split_ands; refine upon_mapUpdate _ 109 9 54 (string_keyed Tryz.underlying9) Tryz.underlying109 tokR mb n D ((HZ.out.1.below hZ).own) (by have := HC.out.2.2.2; unfold maxLen; omega) _ _ (keyL contact) (WideMaps.keyOf_string_mk Tryz.underlying9 HC.out.2.2.1) (.held (Ent.val ⟨contact, true, name, groups, ⟨o, hn', i, m⟩⟩ (.slice A groups.length c))) [] rfl ?_; intro w7 hown7 hgr7))
  have hwz2 := HZ.out.2.1.size
  have hfin := (HZ.out.1.below hZ).store (kc' := 0) (e := (⟨contact, true, name, groups, ⟨o, hn', i, m⟩⟩ : Ent)) ⟨rfl, HC.out.2.1⟩ (hgr.lower (by show B ≤ wz.heap.size; omega)) hown7 hgr7
  have hkk : (K : Int) = (((R.put contact (⟨contact, true, name, groups, ⟨o, hn', i, m⟩⟩ : Ent)).kept : Nat) : Int) := by have := HC.out.1.1; omega
  rw [hkk] at hfin
  have hU := (HZ.out.2.1.trans (Upd.of_below hZ (Nat.le_refl _)) (by omega)).trans (Upd.of_grown (ks := fun k => k = rb ∨ k = mb) hgr7 (.inr rfl) (Nat.le_refl _)) (by have := hZ.size; omega)
  have HF := Lib.hid (And.intro hfin hU)
  clear hfin hU hkk hown7 hgr7 hgr hbc
  go_wp2_with fail
  go_end0
  exact ⟨rfl, ⟨_, HF.out.1⟩, HF.out.2⟩

set_option maxRecDepth 100000 in
set_option maxHeartbeats 4000000 in
theorem rset_b {w : World} {B rb mb n : Nat} {D : DataW Value} {R : RS} (h : RoAt w B rb mb n D R) (e : Ent) (g : Value) (hg : Strs w g e.groups) (hl : e.groups.length ≤ 1000000) (hs : e.contact.size ≤ maxLen) (hn : n ≤ 1000000) (hBw : B ≤ w.heap.size)
    (hwas : R.wasKept e.contact = false) (hkept : e.kept = true) :
    Calls Tryz.prog 65 #[.pointer (some ⟨rb, 0, none⟩), e.val g] w fun r w' => r = .returned (.tuple #[]) ∧ (∃ D', RoAt w' B rb mb (n + 1) D' (R.put e.contact e)) ∧ Upd w.heap.size (fun k => k = rb ∨ k = mb) w w' := by
  obtain ⟨contact, kept, name, groups, ⟨o, hn', i, m⟩⟩ := e
  simp only at hl hs hwas hkept hg ⊢
  
  subst hkept
  obtain ⟨GA, gc, hv⟩ : ∃ A cap, g = .slice A groups.length cap := let ⟨⟨A, cap, h, _⟩, _⟩ := hg; ⟨A, cap, h⟩
  subst hv
  have hcnt := RS.put_count h.apart contact ⟨contact, true, name, groups, ⟨o, hn', i, m⟩⟩
  have hkl : R.kept ≤ 1000000 := by have := R.kept_le; have := h.own.size_le; rw [h.size] at this; omega
  have hwk := RS.wasKept_le (R := R) contact
  rw [hwas] at hcnt hwk
  simp only [if_true, if_false, Bool.false_eq_true] at hcnt hwk
  have hlt := h.lt
  obtain ⟨WB, hWB⟩ : ∃ WB, (w.alloc (.cells #[.string contact, .bool true, .string name, .slice GA groups.length gc, .int .i64 o, .int .u64 hn', .int .i64 i, .int .u64 m] 54)) = WB := ⟨_, rfl⟩
  have hBW : Below w.heap.size w WB := by rw [← hWB]; exact (Below.refl _ _).alloc (Nat.le_refl _) _
  have BX : WB.heap[w.heap.size]? = some (.cells #[.string contact, .bool true, .string name, .slice GA groups.length gc, .int .i64 o, .int .u64 hn', .int .i64 i, .int .u64 m] 54) := by rw [← hWB]; exact blk_new _ _
  have h1 := (h.below hBW).below ((Below.refl _ _).drew)
  obtain ⟨q, QA, qc, l1, hq⟩ := h1.was contact hs
  rw [hwas] at hq
  obtain ⟨qcontact, qkept, qname, qgroups, ⟨qo, qn, qi, qm⟩⟩ := q
  simp only [Ent.val] at hq l1
  subst hq
  have r4 : WB.cell? ⟨rb, 4, none⟩ = some (.map (some mb)) := blk_cell h1.cells 4
  have r5 : WB.cell? ⟨rb, 5, none⟩ = some (.int .i64 (R.kept : Nat)) := blk_cell h1.cells 5
  have rz5 : WB.frozen? ⟨rb, 5, none⟩ = false := blk_frozen h1.cells 5
  have hx0 : WB.cell? ⟨w.heap.size, 0, none⟩ = some (.string contact) := blk_cell BX 0
  have hx1 : WB.cell? ⟨w.heap.size, 1, none⟩ = some (.bool true) := blk_cell BX 1
  have hx2 : WB.cell? ⟨w.heap.size, 2, none⟩ = some (.string name) := blk_cell BX 2
  have hx3 : WB.cell? ⟨w.heap.size, 3, none⟩ = some (.slice GA groups.length gc) := blk_cell BX 3
  have hx4 : WB.cell? ⟨w.heap.size, 4, none⟩ = some (.int .i64 o) := blk_cell BX 4
  have hx5 : WB.cell? ⟨w.heap.size, 5, none⟩ = some (.int .u64 hn') := blk_cell BX 5
  have hx6 : WB.cell? ⟨w.heap.size, 6, none⟩ = some (.int .i64 i) := blk_cell BX 6
  have hx7 : WB.cell? ⟨w.heap.size, 7, none⟩ = some (.int .u64 m) := blk_cell BX 7
  obtain ⟨K, hK⟩ : ∃ K, R.kept = K := ⟨_, rfl⟩
  rw [hK] at r5 hcnt hkl hwk h1
  have wr1 : IntKind.i64.wrap ((K : Int) - 1) = (K : Int) - 1 := IntWalk.i64_in _ (by omega)
  have wr2 : IntKind.i64.wrap ((K : Int) + 1) = (K : Int) + 1 := IntWalk.i64_in _ (by omega)
  have wr3 : IntKind.i64.wrap ((K : Int) - 1 + 1) = (K : Int) := by rw [show (K : Int) - 1 + 1 = K by omega]; exact IntWalk.i64_in _ (by omega)
  have hf : ∀ w, (Instr.field 54 (.agg #[.string qcontact, .bool false, .string qname, .slice QA qgroups.length qc, .int .i64 qo, .int .u64 qn, .int .i64 qi, .int .u64 qm]) 1).run Tryz.prog w = .ok (.bool false) w := fun _ => by kernel_rfl
  have HU0 : Upd w.heap.size (fun k => k = rb ∨ k = mb) w WB := Upd.of_below hBW (Nat.le_refl _)
  have hz0 : RoAtK WB B rb mb n D R (K : Int) := by rw [← hK]; exact h.below hBW
  have hgs0 := hg.below hBW
  have hz1 : RoAtK (WB.setCell ⟨rb, 5, none⟩ (.int .i64 ((K : Int) + 1))) B rb mb n D R ((K : Int) + 1) := hz0.field 5 _ rfl rfl
  have HU1 : Upd w.heap.size (fun k => k = rb ∨ k = mb) w (WB.setCell ⟨rb, 5, none⟩ (.int .i64 ((K : Int) + 1))) := HU0.setCell (.inl (.inl rfl)) _
  have BX1 := blk_set_other BX (a := (⟨rb, 5, none⟩ : Addr)) (.int .i64 ((K : Int) + 1)) (by show w.heap.size ≠ rb; omega)
  have hgs1 := Strs.field hz0 hgs0 5 (.int .i64 ((K : Int) + 1))
  have BZ := blk_drew BX1
  have hgsZ := hgs1.below ((Below.refl _ _).drew)
  have HZ := Lib.hid (And.intro (hz1.below ((Below.refl _ _).drew)) (And.intro (HU1.drew) (And.intro BZ hgsZ)))
  have HC := Lib.hid (And.intro hcnt (And.intro hl (And.intro hs hn)))
  clear hz0 hcnt hl hs HU0 hwas h1 BX hg h hBW
  go_enter Tryz.func65, Tryz.ntmps65
  go_wp2_with fail
  go_region
  go_wp2_with fail
  generalize hwz : (WB.setCell ⟨rb, 5, none⟩ (.int .i64 ((K : Int) + 1))).drew = wz at HZ ⊢
  clear hwz hx0 hx1 hx2 hx3 hx4 hx5 hx6 hx7 r4 r5 rz5 hf wr1 wr2 wr3 l1 hWB
  have c4 : wz.cell? ⟨rb, 4, none⟩ = some (.map (some mb)) := blk_cell HZ.out.1.cells 4
  have hx0 : wz.cell? ⟨w.heap.size, 0, none⟩ = some (.string contact) := blk_cell HZ.out.2.2.1 0
  have hx1 : wz.cell? ⟨w.heap.size, 1, none⟩ = some (.bool true) := blk_cell HZ.out.2.2.1 1
  have hx2 : wz.cell? ⟨w.heap.size, 2, none⟩ = some (.string name) := blk_cell HZ.out.2.2.1 2
  have hx3 : wz.cell? ⟨w.heap.size, 3, none⟩ = some (.slice GA groups.length gc) := blk_cell HZ.out.2.2.1 3
  have hx4 : wz.cell? ⟨w.heap.size, 4, none⟩ = some (.int .i64 o) := blk_cell HZ.out.2.2.1 4
  have hx5 : wz.cell? ⟨w.heap.size, 5, none⟩ = some (.int .u64 hn') := blk_cell HZ.out.2.2.1 5
  have hx6 : wz.cell? ⟨w.heap.size, 6, none⟩ = some (.int .i64 i) := blk_cell HZ.out.2.2.1 6
  have hx7 : wz.cell? ⟨w.heap.size, 7, none⟩ = some (.int .u64 m) := blk_cell HZ.out.2.2.1 7
  have hltz := HZ.out.1.lt
  have hnez := HZ.out.1.ne
  have hltb := blk_lt HZ.out.2.2.1
  have HT := Lib.hid (fun W (hW : Below wz.heap.size wz W) => rtwin_any W (⟨contact, true, name, groups, ⟨o, hn', i, m⟩⟩ : Ent) _ (HZ.out.2.2.2.below hW) HC.out.2.1)
  go_region_held3 (fun w' => Upd wz.heap.size (fun k => k = mb) wz w' ∧ wz.heap.size ≤ w'.heap.size ∧ w'.cell? ⟨rb, 4, none⟩ = some (.map (some mb)) ∧ w'.cell? ⟨w.heap.size, 0, none⟩ = some (.string contact) ∧ w'.cell? ⟨w.heap.size, 1, none⟩ = some (.bool true) ∧ w'.cell? ⟨w.heap.size, 2, none⟩ = some (.string name) ∧ w'.cell? ⟨w.heap.size, 3, none⟩ = some (.slice GA groups.length gc) ∧ w'.cell? ⟨w.heap.size, 4, none⟩ = some (.int .i64 o) ∧ w'.cell? ⟨w.heap.size, 5, none⟩ = some (.int .u64 hn') ∧ w'.cell? ⟨w.heap.size, 6, none⟩ = some (.int .i64 i) ∧ w'.cell? ⟨w.heap.size, 7, none⟩ = some (.int .u64 m))
    (first
      | exact ⟨(Upd.refl _ _ _).drew, Nat.le_refl _, c4, hx0, hx1, hx2, hx3, hx4, hx5, hx6, hx7⟩
      | (go_split_ands; refine ⟨Upd.of_below hZ (Nat.le_refl _), hZ.size, ?_, ?_, ?_, ?_, ?_, ?_, ?_, ?_, ?_⟩ <;> (refine (hZ.cell (by first | (simp; done) | (simp; omega) | (dsimp only; omega))).trans ?_; assumption))
      | (go_split_ands; refine ⟨(Upd.of_below hZ (Nat.le_refl _)).trans (Upd.of_grown hgr7 rfl (Nat.le_refl _)) (hZ.size), Nat.le_trans hZ.size hgr7.size, ?_, ?_, ?_, ?_, ?_, ?_, ?_, ?_, ?_⟩ <;> (rw [hgr7.cell_far _ (by have := hZ.size; first | (simp; done) | (simp; omega) | (dsimp only; omega)) (by simp; omega)]; assumption)))
    (first
      | (go_at_call 111; refine (HT.out _ ((Below.refl _ _).drew)).mono ?_; rintro r w' ⟨⟨A, c, rfl, hgr⟩, hbc⟩; have hZ : Below wz.heap.size wz w' := Below.trans ((Below.refl _ _).drew) (hbc.mono (Nat.le_refl _)))
      | (go_split_ands; refine upon_mapUpdate _ 109 9 54 (string_keyed Tryz.underlying9) Tryz.underlying109 tokR mb n D ((HZ.out.1.below hZ).own) (by have := HC.out.2.2.2; unfold maxLen; omega) _ _ (keyL contact) (WideMaps.keyOf_string_mk Tryz.underlying9 HC.out.2.2.1) (.held (Ent.val ⟨contact, true, name, groups, ⟨o, hn', i, m⟩⟩ (.slice A groups.length c))) [] rfl ?_; intro w7 hown7 hgr7))
  have hwz2 := HZ.out.2.1.size
  have hfin := (HZ.out.1.below hZ).store (kc' := 0) (e := (⟨contact, true, name, groups, ⟨o, hn', i, m⟩⟩ : Ent)) ⟨rfl, HC.out.2.1⟩ (hgr.lower (by show B ≤ wz.heap.size; omega)) hown7 hgr7
  have hkk : ((K : Int) + 1) = (((R.put contact (⟨contact, true, name, groups, ⟨o, hn', i, m⟩⟩ : Ent)).kept : Nat) : Int) := by have := HC.out.1.1; omega
  rw [hkk] at hfin
  have hU := (HZ.out.2.1.trans (Upd.of_below hZ (Nat.le_refl _)) (by omega)).trans (Upd.of_grown (ks := fun k => k = rb ∨ k = mb) hgr7 (.inr rfl) (Nat.le_refl _)) (by have := hZ.size; omega)
  have HF := Lib.hid (And.intro hfin hU)
  clear hfin hU hkk hown7 hgr7 hgr hbc
  go_wp2_with fail
  go_end0
  exact ⟨rfl, ⟨_, HF.out.1⟩, HF.out.2⟩

set_option maxRecDepth 100000 in
set_option maxHeartbeats 4000000 in
theorem rset_c {w : World} {B rb mb n : Nat} {D : DataW Value} {R : RS} (h : RoAt w B rb mb n D R) (e : Ent) (g : Value) (hg : Strs w g e.groups) (hl : e.groups.length ≤ 1000000) (hs : e.contact.size ≤ maxLen) (hn : n ≤ 1000000) (hBw : B ≤ w.heap.size)
    (hwas : R.wasKept e.contact = true) (hkept : e.kept = false) (hi : (e.half.i == 0) = false) :
    Calls Tryz.prog 65 #[.pointer (some ⟨rb, 0, none⟩), e.val g] w fun r w' => r = .returned (.tuple #[]) ∧ (∃ D', RoAt w' B rb mb (n + 1) D' (R.put e.contact e)) ∧ Upd w.heap.size (fun k => k = rb ∨ k = mb) w w' := by
  obtain ⟨contact, kept, name, groups, ⟨o, hn', i, m⟩⟩ := e
  simp only at hl hs hwas hkept hg ⊢
  simp only at hi
  subst hkept
  obtain ⟨GA, gc, hv⟩ : ∃ A cap, g = .slice A groups.length cap := let ⟨⟨A, cap, h, _⟩, _⟩ := hg; ⟨A, cap, h⟩
  subst hv
  have hcnt := RS.put_count h.apart contact ⟨contact, false, name, groups, ⟨o, hn', i, m⟩⟩
  have hkl : R.kept ≤ 1000000 := by have := R.kept_le; have := h.own.size_le; rw [h.size] at this; omega
  have hwk := RS.wasKept_le (R := R) contact
  rw [hwas] at hcnt hwk
  simp only [if_true, if_false, Bool.false_eq_true] at hcnt hwk
  have hlt := h.lt
  obtain ⟨WB, hWB⟩ : ∃ WB, (w.alloc (.cells #[.string contact, .bool false, .string name, .slice GA groups.length gc, .int .i64 o, .int .u64 hn', .int .i64 i, .int .u64 m] 54)) = WB := ⟨_, rfl⟩
  have hBW : Below w.heap.size w WB := by rw [← hWB]; exact (Below.refl _ _).alloc (Nat.le_refl _) _
  have BX : WB.heap[w.heap.size]? = some (.cells #[.string contact, .bool false, .string name, .slice GA groups.length gc, .int .i64 o, .int .u64 hn', .int .i64 i, .int .u64 m] 54) := by rw [← hWB]; exact blk_new _ _
  have h1 := (h.below hBW).below ((Below.refl _ _).drew)
  obtain ⟨q, QA, qc, l1, hq⟩ := h1.was contact hs
  rw [hwas] at hq
  obtain ⟨qcontact, qkept, qname, qgroups, ⟨qo, qn, qi, qm⟩⟩ := q
  simp only [Ent.val] at hq l1
  subst hq
  have r4 : WB.cell? ⟨rb, 4, none⟩ = some (.map (some mb)) := blk_cell h1.cells 4
  have r5 : WB.cell? ⟨rb, 5, none⟩ = some (.int .i64 (R.kept : Nat)) := blk_cell h1.cells 5
  have rz5 : WB.frozen? ⟨rb, 5, none⟩ = false := blk_frozen h1.cells 5
  have hx0 : WB.cell? ⟨w.heap.size, 0, none⟩ = some (.string contact) := blk_cell BX 0
  have hx1 : WB.cell? ⟨w.heap.size, 1, none⟩ = some (.bool false) := blk_cell BX 1
  have hx2 : WB.cell? ⟨w.heap.size, 2, none⟩ = some (.string name) := blk_cell BX 2
  have hx3 : WB.cell? ⟨w.heap.size, 3, none⟩ = some (.slice GA groups.length gc) := blk_cell BX 3
  have hx4 : WB.cell? ⟨w.heap.size, 4, none⟩ = some (.int .i64 o) := blk_cell BX 4
  have hx5 : WB.cell? ⟨w.heap.size, 5, none⟩ = some (.int .u64 hn') := blk_cell BX 5
  have hx6 : WB.cell? ⟨w.heap.size, 6, none⟩ = some (.int .i64 i) := blk_cell BX 6
  have hx7 : WB.cell? ⟨w.heap.size, 7, none⟩ = some (.int .u64 m) := blk_cell BX 7
  have hi2 : (i != 0) = true := by rw [bne, hi]; rfl
  obtain ⟨K, hK⟩ : ∃ K, R.kept = K := ⟨_, rfl⟩
  rw [hK] at r5 hcnt hkl hwk h1
  have wr1 : IntKind.i64.wrap ((K : Int) - 1) = (K : Int) - 1 := IntWalk.i64_in _ (by omega)
  have wr2 : IntKind.i64.wrap ((K : Int) + 1) = (K : Int) + 1 := IntWalk.i64_in _ (by omega)
  have wr3 : IntKind.i64.wrap ((K : Int) - 1 + 1) = (K : Int) := by rw [show (K : Int) - 1 + 1 = K by omega]; exact IntWalk.i64_in _ (by omega)
  have hf : ∀ w, (Instr.field 54 (.agg #[.string qcontact, .bool true, .string qname, .slice QA qgroups.length qc, .int .i64 qo, .int .u64 qn, .int .i64 qi, .int .u64 qm]) 1).run Tryz.prog w = .ok (.bool true) w := fun _ => by kernel_rfl
  have HU0 : Upd w.heap.size (fun k => k = rb ∨ k = mb) w WB := Upd.of_below hBW (Nat.le_refl _)
  have hz0 : RoAtK WB B rb mb n D R (K : Int) := by rw [← hK]; exact h.below hBW
  have hgs0 := hg.below hBW
  have hz1 : RoAtK (WB.setCell ⟨rb, 5, none⟩ (.int .i64 ((K : Int) - 1))) B rb mb n D R ((K : Int) - 1) := hz0.field 5 _ rfl rfl
  have HU1 : Upd w.heap.size (fun k => k = rb ∨ k = mb) w (WB.setCell ⟨rb, 5, none⟩ (.int .i64 ((K : Int) - 1))) := HU0.setCell (.inl (.inl rfl)) _
  have BX1 := blk_set_other BX (a := (⟨rb, 5, none⟩ : Addr)) (.int .i64 ((K : Int) - 1)) (by show w.heap.size ≠ rb; omega)
  have hgs1 := Strs.field hz0 hgs0 5 (.int .i64 ((K : Int) - 1))
  have BZ := blk_drew BX1
  have hgsZ := hgs1.below ((Below.refl _ _).drew)
  have HZ := Lib.hid (And.intro (hz1.below ((Below.refl _ _).drew)) (And.intro (HU1.drew) (And.intro BZ hgsZ)))
  have HC := Lib.hid (And.intro hcnt (And.intro hl (And.intro hs hn)))
  clear hz0 hcnt hl hs HU0 hwas h1 BX hg h hBW
  go_enter Tryz.func65, Tryz.ntmps65
  go_wp2_with fail
  go_region
  go_wp2_with fail
  generalize hwz : (WB.setCell ⟨rb, 5, none⟩ (.int .i64 ((K : Int) - 1))).drew = wz at HZ ⊢
  clear hwz hx0 hx1 hx2 hx3 hx4 hx5 hx6 hx7 r4 r5 rz5 hf wr1 wr2 wr3 l1 hWB
  have c4 : wz.cell? ⟨rb, 4, none⟩ = some (.map (some mb)) := blk_cell HZ.out.1.cells 4
  have hx0 : wz.cell? ⟨w.heap.size, 0, none⟩ = some (.string contact) := blk_cell HZ.out.2.2.1 0
  have hx1 : wz.cell? ⟨w.heap.size, 1, none⟩ = some (.bool false) := blk_cell HZ.out.2.2.1 1
  have hx2 : wz.cell? ⟨w.heap.size, 2, none⟩ = some (.string name) := blk_cell HZ.out.2.2.1 2
  have hx3 : wz.cell? ⟨w.heap.size, 3, none⟩ = some (.slice GA groups.length gc) := blk_cell HZ.out.2.2.1 3
  have hx4 : wz.cell? ⟨w.heap.size, 4, none⟩ = some (.int .i64 o) := blk_cell HZ.out.2.2.1 4
  have hx5 : wz.cell? ⟨w.heap.size, 5, none⟩ = some (.int .u64 hn') := blk_cell HZ.out.2.2.1 5
  have hx6 : wz.cell? ⟨w.heap.size, 6, none⟩ = some (.int .i64 i) := blk_cell HZ.out.2.2.1 6
  have hx7 : wz.cell? ⟨w.heap.size, 7, none⟩ = some (.int .u64 m) := blk_cell HZ.out.2.2.1 7
  have hltz := HZ.out.1.lt
  have hnez := HZ.out.1.ne
  have hltb := blk_lt HZ.out.2.2.1
  have HT := Lib.hid (fun W (hW : Below wz.heap.size wz W) => rtwin_any W (⟨contact, false, name, groups, ⟨o, hn', i, m⟩⟩ : Ent) _ (HZ.out.2.2.2.below hW) HC.out.2.1)
  go_region_held3 (fun w' => Upd wz.heap.size (fun k => k = mb) wz w' ∧ wz.heap.size ≤ w'.heap.size ∧ w'.cell? ⟨rb, 4, none⟩ = some (.map (some mb)) ∧ w'.cell? ⟨w.heap.size, 0, none⟩ = some (.string contact) ∧ w'.cell? ⟨w.heap.size, 1, none⟩ = some (.bool false) ∧ w'.cell? ⟨w.heap.size, 2, none⟩ = some (.string name) ∧ w'.cell? ⟨w.heap.size, 3, none⟩ = some (.slice GA groups.length gc) ∧ w'.cell? ⟨w.heap.size, 4, none⟩ = some (.int .i64 o) ∧ w'.cell? ⟨w.heap.size, 5, none⟩ = some (.int .u64 hn') ∧ w'.cell? ⟨w.heap.size, 6, none⟩ = some (.int .i64 i) ∧ w'.cell? ⟨w.heap.size, 7, none⟩ = some (.int .u64 m))
    (first
      | exact ⟨(Upd.refl _ _ _).drew, Nat.le_refl _, c4, hx0, hx1, hx2, hx3, hx4, hx5, hx6, hx7⟩
      | (go_split_ands; refine ⟨Upd.of_below hZ (Nat.le_refl _), hZ.size, ?_, ?_, ?_, ?_, ?_, ?_, ?_, ?_, ?_⟩ <;> (refine (hZ.cell (by first | (simp; done) | (simp; omega) | (dsimp only; omega))).trans ?_; assumption))
      | (go_split_ands; refine ⟨(Upd.of_below hZ (Nat.le_refl _)).trans (Upd.of_grown hgr7 rfl (Nat.le_refl _)) (hZ.size), Nat.le_trans hZ.size hgr7.size, ?_, ?_, ?_, ?_, ?_, ?_, ?_, ?_, ?_⟩ <;> (rw [hgr7.cell_far _ (by have := hZ.size; first | (simp; done) | (simp; omega) | (dsimp only; omega)) (by simp; omega)]; assumption)))
    (first
      | (go_at_call 111; refine (HT.out _ ((Below.refl _ _).drew)).mono ?_; rintro r w' ⟨⟨A, c, rfl, hgr⟩, hbc⟩; have hZ : Below wz.heap.size wz w' := Below.trans ((Below.refl _ _).drew) (hbc.mono (Nat.le_refl _)))
      | (go_split_ands; refine upon_mapUpdate _ 109 9 54 (string_keyed Tryz.underlying9) Tryz.underlying109 tokR mb n D ((HZ.out.1.below hZ).own) (by have := HC.out.2.2.2; unfold maxLen; omega) _ _ (keyL contact) (WideMaps.keyOf_string_mk Tryz.underlying9 HC.out.2.2.1) (.held (Ent.val ⟨contact, false, name, groups, ⟨o, hn', i, m⟩⟩ (.slice A groups.length c))) [] rfl ?_; intro w7 hown7 hgr7))
  have hwz2 := HZ.out.2.1.size
  have hfin := (HZ.out.1.below hZ).store (kc' := 0) (e := (⟨contact, false, name, groups, ⟨o, hn', i, m⟩⟩ : Ent)) ⟨rfl, HC.out.2.1⟩ (hgr.lower (by show B ≤ wz.heap.size; omega)) hown7 hgr7
  have hkk : ((K : Int) - 1) = (((R.put contact (⟨contact, false, name, groups, ⟨o, hn', i, m⟩⟩ : Ent)).kept : Nat) : Int) := by have := HC.out.1.1; omega
  rw [hkk] at hfin
  have hU := (HZ.out.2.1.trans (Upd.of_below hZ (Nat.le_refl _)) (by omega)).trans (Upd.of_grown (ks := fun k => k = rb ∨ k = mb) hgr7 (.inr rfl) (Nat.le_refl _)) (by have := hZ.size; omega)
  have HF := Lib.hid (And.intro hfin hU)
  clear hfin hU hkk hown7 hgr7 hgr hbc
  go_wp2_with fail
  go_end0
  exact ⟨rfl, ⟨_, HF.out.1⟩, HF.out.2⟩

set_option maxRecDepth 100000 in
set_option maxHeartbeats 4000000 in
theorem rset_d {w : World} {B rb mb n : Nat} {D : DataW Value} {R : RS} (h : RoAt w B rb mb n D R) (e : Ent) (g : Value) (hg : Strs w g e.groups) (hl : e.groups.length ≤ 1000000) (hs : e.contact.size ≤ maxLen) (hn : n ≤ 1000000) (hBw : B ≤ w.heap.size)
    (hwas : R.wasKept e.contact = false) (hkept : e.kept = false) (hi : (e.half.i == 0) = false) :
    Calls Tryz.prog 65 #[.pointer (some ⟨rb, 0, none⟩), e.val g] w fun r w' => r = .returned (.tuple #[]) ∧ (∃ D', RoAt w' B rb mb (n + 1) D' (R.put e.contact e)) ∧ Upd w.heap.size (fun k => k = rb ∨ k = mb) w w' := by
  obtain ⟨contact, kept, name, groups, ⟨o, hn', i, m⟩⟩ := e
  simp only at hl hs hwas hkept hg ⊢
  simp only at hi
  subst hkept
  obtain ⟨GA, gc, hv⟩ : ∃ A cap, g = .slice A groups.length cap := let ⟨⟨A, cap, h, _⟩, _⟩ := hg; ⟨A, cap, h⟩
  subst hv
  have hcnt := RS.put_count h.apart contact ⟨contact, false, name, groups, ⟨o, hn', i, m⟩⟩
  have hkl : R.kept ≤ 1000000 := by have := R.kept_le; have := h.own.size_le; rw [h.size] at this; omega
  have hwk := RS.wasKept_le (R := R) contact
  rw [hwas] at hcnt hwk
  simp only [if_true, if_false, Bool.false_eq_true] at hcnt hwk
  have hlt := h.lt
  obtain ⟨WB, hWB⟩ : ∃ WB, (w.alloc (.cells #[.string contact, .bool false, .string name, .slice GA groups.length gc, .int .i64 o, .int .u64 hn', .int .i64 i, .int .u64 m] 54)) = WB := ⟨_, rfl⟩
  have hBW : Below w.heap.size w WB := by rw [← hWB]; exact (Below.refl _ _).alloc (Nat.le_refl _) _
  have BX : WB.heap[w.heap.size]? = some (.cells #[.string contact, .bool false, .string name, .slice GA groups.length gc, .int .i64 o, .int .u64 hn', .int .i64 i, .int .u64 m] 54) := by rw [← hWB]; exact blk_new _ _
  have h1 := (h.below hBW).below ((Below.refl _ _).drew)
  obtain ⟨q, QA, qc, l1, hq⟩ := h1.was contact hs
  rw [hwas] at hq
  obtain ⟨qcontact, qkept, qname, qgroups, ⟨qo, qn, qi, qm⟩⟩ := q
  simp only [Ent.val] at hq l1
  subst hq
  have r4 : WB.cell? ⟨rb, 4, none⟩ = some (.map (some mb)) := blk_cell h1.cells 4
  have r5 : WB.cell? ⟨rb, 5, none⟩ = some (.int .i64 (R.kept : Nat)) := blk_cell h1.cells 5
  have rz5 : WB.frozen? ⟨rb, 5, none⟩ = false := blk_frozen h1.cells 5
  have hx0 : WB.cell? ⟨w.heap.size, 0, none⟩ = some (.string contact) := blk_cell BX 0
  have hx1 : WB.cell? ⟨w.heap.size, 1, none⟩ = some (.bool false) := blk_cell BX 1
  have hx2 : WB.cell? ⟨w.heap.size, 2, none⟩ = some (.string name) := blk_cell BX 2
  have hx3 : WB.cell? ⟨w.heap.size, 3, none⟩ = some (.slice GA groups.length gc) := blk_cell BX 3
  have hx4 : WB.cell? ⟨w.heap.size, 4, none⟩ = some (.int .i64 o) := blk_cell BX 4
  have hx5 : WB.cell? ⟨w.heap.size, 5, none⟩ = some (.int .u64 hn') := blk_cell BX 5
  have hx6 : WB.cell? ⟨w.heap.size, 6, none⟩ = some (.int .i64 i) := blk_cell BX 6
  have hx7 : WB.cell? ⟨w.heap.size, 7, none⟩ = some (.int .u64 m) := blk_cell BX 7
  have hi2 : (i != 0) = true := by rw [bne, hi]; rfl
  obtain ⟨K, hK⟩ : ∃ K, R.kept = K := ⟨_, rfl⟩
  rw [hK] at r5 hcnt hkl hwk h1
  have wr1 : IntKind.i64.wrap ((K : Int) - 1) = (K : Int) - 1 := IntWalk.i64_in _ (by omega)
  have wr2 : IntKind.i64.wrap ((K : Int) + 1) = (K : Int) + 1 := IntWalk.i64_in _ (by omega)
  have wr3 : IntKind.i64.wrap ((K : Int) - 1 + 1) = (K : Int) := by rw [show (K : Int) - 1 + 1 = K by omega]; exact IntWalk.i64_in _ (by omega)
  have hf : ∀ w, (Instr.field 54 (.agg #[.string qcontact, .bool false, .string qname, .slice QA qgroups.length qc, .int .i64 qo, .int .u64 qn, .int .i64 qi, .int .u64 qm]) 1).run Tryz.prog w = .ok (.bool false) w := fun _ => by kernel_rfl
  have HU0 : Upd w.heap.size (fun k => k = rb ∨ k = mb) w WB := Upd.of_below hBW (Nat.le_refl _)
  have hz0 : RoAtK WB B rb mb n D R (K : Int) := by rw [← hK]; exact h.below hBW
  have hgs0 := hg.below hBW
  have BZ := blk_drew BX
  have hgsZ := hgs0.below ((Below.refl _ _).drew)
  have HZ := Lib.hid (And.intro (hz0.below ((Below.refl _ _).drew)) (And.intro (HU0.drew) (And.intro BZ hgsZ)))
  have HC := Lib.hid (And.intro hcnt (And.intro hl (And.intro hs hn)))
  clear hz0 hcnt hl hs HU0 hwas h1 BX hg h hBW
  go_enter Tryz.func65, Tryz.ntmps65
  go_wp2_with fail
  go_region
  go_wp2_with fail
  generalize hwz : WB.drew = wz at HZ ⊢
  clear hwz hx0 hx1 hx2 hx3 hx4 hx5 hx6 hx7 r4 r5 rz5 hf wr1 wr2 wr3 l1 hWB
  have c4 : wz.cell? ⟨rb, 4, none⟩ = some (.map (some mb)) := blk_cell HZ.out.1.cells 4
  have hx0 : wz.cell? ⟨w.heap.size, 0, none⟩ = some (.string contact) := blk_cell HZ.out.2.2.1 0
  have hx1 : wz.cell? ⟨w.heap.size, 1, none⟩ = some (.bool false) := blk_cell HZ.out.2.2.1 1
  have hx2 : wz.cell? ⟨w.heap.size, 2, none⟩ = some (.string name) := blk_cell HZ.out.2.2.1 2
  have hx3 : wz.cell? ⟨w.heap.size, 3, none⟩ = some (.slice GA groups.length gc) := blk_cell HZ.out.2.2.1 3
  have hx4 : wz.cell? ⟨w.heap.size, 4, none⟩ = some (.int .i64 o) := blk_cell HZ.out.2.2.1 4
  have hx5 : wz.cell? ⟨w.heap.size, 5, none⟩ = some (.int .u64 hn') := blk_cell HZ.out.2.2.1 5
  have hx6 : wz.cell? ⟨w.heap.size, 6, none⟩ = some (.int .i64 i) := blk_cell HZ.out.2.2.1 6
  have hx7 : wz.cell? ⟨w.heap.size, 7, none⟩ = some (.int .u64 m) := blk_cell HZ.out.2.2.1 7
  have hltz := HZ.out.1.lt
  have hnez := HZ.out.1.ne
  have hltb := blk_lt HZ.out.2.2.1
  have HT := Lib.hid (fun W (hW : Below wz.heap.size wz W) => rtwin_any W (⟨contact, false, name, groups, ⟨o, hn', i, m⟩⟩ : Ent) _ (HZ.out.2.2.2.below hW) HC.out.2.1)
  go_region_held3 (fun w' => Upd wz.heap.size (fun k => k = mb) wz w' ∧ wz.heap.size ≤ w'.heap.size ∧ w'.cell? ⟨rb, 4, none⟩ = some (.map (some mb)) ∧ w'.cell? ⟨w.heap.size, 0, none⟩ = some (.string contact) ∧ w'.cell? ⟨w.heap.size, 1, none⟩ = some (.bool false) ∧ w'.cell? ⟨w.heap.size, 2, none⟩ = some (.string name) ∧ w'.cell? ⟨w.heap.size, 3, none⟩ = some (.slice GA groups.length gc) ∧ w'.cell? ⟨w.heap.size, 4, none⟩ = some (.int .i64 o) ∧ w'.cell? ⟨w.heap.size, 5, none⟩ = some (.int .u64 hn') ∧ w'.cell? ⟨w.heap.size, 6, none⟩ = some (.int .i64 i) ∧ w'.cell? ⟨w.heap.size, 7, none⟩ = some (.int .u64 m))
    (first
      | exact ⟨(Upd.refl _ _ _).drew, Nat.le_refl _, c4, hx0, hx1, hx2, hx3, hx4, hx5, hx6, hx7⟩
      | (go_split_ands; refine ⟨Upd.of_below hZ (Nat.le_refl _), hZ.size, ?_, ?_, ?_, ?_, ?_, ?_, ?_, ?_, ?_⟩ <;> (refine (hZ.cell (by first | (simp; done) | (simp; omega) | (dsimp only; omega))).trans ?_; assumption))
      | (go_split_ands; refine ⟨(Upd.of_below hZ (Nat.le_refl _)).trans (Upd.of_grown hgr7 rfl (Nat.le_refl _)) (hZ.size), Nat.le_trans hZ.size hgr7.size, ?_, ?_, ?_, ?_, ?_, ?_, ?_, ?_, ?_⟩ <;> (rw [hgr7.cell_far _ (by have := hZ.size; first | (simp; done) | (simp; omega) | (dsimp only; omega)) (by simp; omega)]; assumption)))
    (first
      | (go_at_call 111; refine (HT.out _ ((Below.refl _ _).drew)).mono ?_; rintro r w' ⟨⟨A, c, rfl, hgr⟩, hbc⟩; have hZ : Below wz.heap.size wz w' := Below.trans ((Below.refl _ _).drew) (hbc.mono (Nat.le_refl _)))
      | (go_split_ands; refine upon_mapUpdate _ 109 9 54 (string_keyed Tryz.underlying9) Tryz.underlying109 tokR mb n D ((HZ.out.1.below hZ).own) (by have := HC.out.2.2.2; unfold maxLen; omega) _ _ (keyL contact) (WideMaps.keyOf_string_mk Tryz.underlying9 HC.out.2.2.1) (.held (Ent.val ⟨contact, false, name, groups, ⟨o, hn', i, m⟩⟩ (.slice A groups.length c))) [] rfl ?_; intro w7 hown7 hgr7))
  have hwz2 := HZ.out.2.1.size
  have hfin := (HZ.out.1.below hZ).store (kc' := 0) (e := (⟨contact, false, name, groups, ⟨o, hn', i, m⟩⟩ : Ent)) ⟨rfl, HC.out.2.1⟩ (hgr.lower (by show B ≤ wz.heap.size; omega)) hown7 hgr7
  have hkk : (K : Int) = (((R.put contact (⟨contact, false, name, groups, ⟨o, hn', i, m⟩⟩ : Ent)).kept : Nat) : Int) := by have := HC.out.1.1; omega
  rw [hkk] at hfin
  have hU := (HZ.out.2.1.trans (Upd.of_below hZ (Nat.le_refl _)) (by omega)).trans (Upd.of_grown (ks := fun k => k = rb ∨ k = mb) hgr7 (.inr rfl) (Nat.le_refl _)) (by have := hZ.size; omega)
  have HF := Lib.hid (And.intro hfin hU)
  clear hfin hU hkk hown7 hgr7 hgr hbc
  go_wp2_with fail
  go_end0
  exact ⟨rfl, ⟨_, HF.out.1⟩, HF.out.2⟩

set_option maxRecDepth 100000 in
set_option maxHeartbeats 4000000 in
theorem rset_e {w : World} {B rb mb n : Nat} {D : DataW Value} {R : RS} (h : RoAt w B rb mb n D R) (e : Ent) (g : Value) (hg : Strs w g e.groups) (hl : e.groups.length ≤ 1000000) (hs : e.contact.size ≤ maxLen) (hn : n ≤ 1000000) (hBw : B ≤ w.heap.size)
    (hwas : R.wasKept e.contact = true) (hkept : e.kept = false) (hi : (e.half.i == 0) = true) :
    Calls Tryz.prog 65 #[.pointer (some ⟨rb, 0, none⟩), e.val g] w fun r w' => r = .returned (.tuple #[]) ∧ (∃ D', RoAt w' B rb mb (n) D' (R.del e.contact)) ∧ Upd w.heap.size (fun k => k = rb ∨ k = mb) w w' := by
  obtain ⟨contact, kept, name, groups, ⟨o, hn', i, m⟩⟩ := e
  simp only at hl hs hwas hkept hg ⊢
  simp only at hi
  subst hkept
  obtain ⟨GA, gc, hv⟩ : ∃ A cap, g = .slice A groups.length cap := let ⟨⟨A, cap, h, _⟩, _⟩ := hg; ⟨A, cap, h⟩
  subst hv
  have hcnt := RS.del_count h.apart contact 
  have hkl : R.kept ≤ 1000000 := by have := R.kept_le; have := h.own.size_le; rw [h.size] at this; omega
  have hwk := RS.wasKept_le (R := R) contact
  rw [hwas] at hcnt hwk
  simp only [if_true, if_false, Bool.false_eq_true] at hcnt hwk
  have hlt := h.lt
  obtain ⟨WB, hWB⟩ : ∃ WB, (w.alloc (.cells #[.string contact, .bool false, .string name, .slice GA groups.length gc, .int .i64 o, .int .u64 hn', .int .i64 i, .int .u64 m] 54)) = WB := ⟨_, rfl⟩
  have hBW : Below w.heap.size w WB := by rw [← hWB]; exact (Below.refl _ _).alloc (Nat.le_refl _) _
  have BX : WB.heap[w.heap.size]? = some (.cells #[.string contact, .bool false, .string name, .slice GA groups.length gc, .int .i64 o, .int .u64 hn', .int .i64 i, .int .u64 m] 54) := by rw [← hWB]; exact blk_new _ _
  have h1 := (h.below hBW).below ((Below.refl _ _).drew)
  obtain ⟨q, QA, qc, l1, hq⟩ := h1.was contact hs
  rw [hwas] at hq
  obtain ⟨qcontact, qkept, qname, qgroups, ⟨qo, qn, qi, qm⟩⟩ := q
  simp only [Ent.val] at hq l1
  subst hq
  have r4 : WB.cell? ⟨rb, 4, none⟩ = some (.map (some mb)) := blk_cell h1.cells 4
  have r5 : WB.cell? ⟨rb, 5, none⟩ = some (.int .i64 (R.kept : Nat)) := blk_cell h1.cells 5
  have rz5 : WB.frozen? ⟨rb, 5, none⟩ = false := blk_frozen h1.cells 5
  have hx0 : WB.cell? ⟨w.heap.size, 0, none⟩ = some (.string contact) := blk_cell BX 0
  have hx1 : WB.cell? ⟨w.heap.size, 1, none⟩ = some (.bool false) := blk_cell BX 1
  have hx2 : WB.cell? ⟨w.heap.size, 2, none⟩ = some (.string name) := blk_cell BX 2
  have hx3 : WB.cell? ⟨w.heap.size, 3, none⟩ = some (.slice GA groups.length gc) := blk_cell BX 3
  have hx4 : WB.cell? ⟨w.heap.size, 4, none⟩ = some (.int .i64 o) := blk_cell BX 4
  have hx5 : WB.cell? ⟨w.heap.size, 5, none⟩ = some (.int .u64 hn') := blk_cell BX 5
  have hx6 : WB.cell? ⟨w.heap.size, 6, none⟩ = some (.int .i64 i) := blk_cell BX 6
  have hx7 : WB.cell? ⟨w.heap.size, 7, none⟩ = some (.int .u64 m) := blk_cell BX 7
  have hi2 : (i != 0) = false := by rw [bne, hi]; rfl
  obtain ⟨K, hK⟩ : ∃ K, R.kept = K := ⟨_, rfl⟩
  rw [hK] at r5 hcnt hkl hwk h1
  have wr1 : IntKind.i64.wrap ((K : Int) - 1) = (K : Int) - 1 := IntWalk.i64_in _ (by omega)
  have wr2 : IntKind.i64.wrap ((K : Int) + 1) = (K : Int) + 1 := IntWalk.i64_in _ (by omega)
  have wr3 : IntKind.i64.wrap ((K : Int) - 1 + 1) = (K : Int) := by rw [show (K : Int) - 1 + 1 = K by omega]; exact IntWalk.i64_in _ (by omega)
  have hf : ∀ w, (Instr.field 54 (.agg #[.string qcontact, .bool true, .string qname, .slice QA qgroups.length qc, .int .i64 qo, .int .u64 qn, .int .i64 qi, .int .u64 qm]) 1).run Tryz.prog w = .ok (.bool true) w := fun _ => by kernel_rfl
  have HU0 : Upd w.heap.size (fun k => k = rb ∨ k = mb) w WB := Upd.of_below hBW (Nat.le_refl _)
  have hz0 : RoAtK WB B rb mb n D R (K : Int) := by rw [← hK]; exact h.below hBW
  have hgs0 := hg.below hBW
  have hz1 : RoAtK (WB.setCell ⟨rb, 5, none⟩ (.int .i64 ((K : Int) - 1))) B rb mb n D R ((K : Int) - 1) := hz0.field 5 _ rfl rfl
  have HU1 : Upd w.heap.size (fun k => k = rb ∨ k = mb) w (WB.setCell ⟨rb, 5, none⟩ (.int .i64 ((K : Int) - 1))) := HU0.setCell (.inl (.inl rfl)) _
  have BX1 := blk_set_other BX (a := (⟨rb, 5, none⟩ : Addr)) (.int .i64 ((K : Int) - 1)) (by show w.heap.size ≠ rb; omega)
  have hgs1 := Strs.field hz0 hgs0 5 (.int .i64 ((K : Int) - 1))
  have BZ := blk_drew BX1
  have hgsZ := hgs1.below ((Below.refl _ _).drew)
  have HZ := Lib.hid (And.intro (hz1.below ((Below.refl _ _).drew)) (And.intro (HU1.drew) (And.intro BZ hgsZ)))
  have HC := Lib.hid (And.intro hcnt (And.intro hl (And.intro hs hn)))
  clear hz0 hcnt hl hs HU0 hwas h1 BX hg h hBW
  go_enter Tryz.func65, Tryz.ntmps65
  go_wp2_with fail
  go_region
  go_wp2_with fail
  generalize hwz : (WB.setCell ⟨rb, 5, none⟩ (.int .i64 ((K : Int) - 1))).drew = wz at HZ ⊢
  clear hwz hx0 hx1 hx2 hx3 hx4 hx5 hx6 hx7 r4 r5 rz5 hf wr1 wr2 wr3 l1 hWB
  have c4 : wz.cell? ⟨rb, 4, none⟩ = some (.map (some mb)) := blk_cell HZ.out.1.cells 4
  have hx0 : wz.cell? ⟨w.heap.size, 0, none⟩ = some (.string contact) := blk_cell HZ.out.2.2.1 0
  have hx1 : wz.cell? ⟨w.heap.size, 1, none⟩ = some (.bool false) := blk_cell HZ.out.2.2.1 1
  have hx2 : wz.cell? ⟨w.heap.size, 2, none⟩ = some (.string name) := blk_cell HZ.out.2.2.1 2
  have hx3 : wz.cell? ⟨w.heap.size, 3, none⟩ = some (.slice GA groups.length gc) := blk_cell HZ.out.2.2.1 3
  have hx4 : wz.cell? ⟨w.heap.size, 4, none⟩ = some (.int .i64 o) := blk_cell HZ.out.2.2.1 4
  have hx5 : wz.cell? ⟨w.heap.size, 5, none⟩ = some (.int .u64 hn') := blk_cell HZ.out.2.2.1 5
  have hx6 : wz.cell? ⟨w.heap.size, 6, none⟩ = some (.int .i64 i) := blk_cell HZ.out.2.2.1 6
  have hx7 : wz.cell? ⟨w.heap.size, 7, none⟩ = some (.int .u64 m) := blk_cell HZ.out.2.2.1 7
  have hltz := HZ.out.1.lt
  have hnez := HZ.out.1.ne
  have hltb := blk_lt HZ.out.2.2.1
  refine wp_region_still_tail 6 (by kernel_rfl) (by kernel_rfl) ?_
  change wpStill _ _ (World.drew _) _ _ _
  simp only [List.take_succ_cons, List.take_zero, List.drop_succ_cons, List.drop_zero]
  repeat (refine wpStill_step (fun K hK => ?_); go_simp; refine hK _ ?_; clear hK K)
  refine wpStill_nil ?_
  change wpList _ _ _ _ _ (World.drew _)
  have hown := (HZ.out.1.below ((Below.refl _ _).drew)).own
  go_wp2_with (at_delete; refine wpList_delete_own _ rfl _ _ 109 9 rfl 54 (string_keyed Tryz.underlying9) Tryz.underlying109 tokR mb n D rfl hown _ (keyL contact) rfl (WideMaps.keyOf_string_mk Tryz.underlying9 HC.out.2.2.1) ?_)
  intro w7 hown7 hturn7
  have hgr7 : wz.drew.grownBy w7 (some mb) := hturn7.grown
  have hwz2 := HZ.out.2.1.size
  have hfin := (HZ.out.1.below ((Below.refl _ _).drew)).drop hown7 hgr7
  have hkk : ((K : Int) - 1) = (((R.del contact).kept : Nat) : Int) := by have := HC.out.1.1; omega
  rw [hkk] at hfin
  have hU := HZ.out.2.1.drew.trans (Upd.of_grown (ks := fun k => k = rb ∨ k = mb) hgr7 (.inr rfl) (Nat.le_refl _)) (by show w.heap.size ≤ wz.heap.size; omega)
  have HF := Lib.hid (And.intro hfin hU)
  clear hfin hU hkk hown7 hgr7 hturn7
  go_wp2_with fail
  go_end0
  exact ⟨rfl, ⟨_, HF.out.1⟩, HF.out.2⟩

set_option maxRecDepth 100000 in
set_option maxHeartbeats 4000000 in
theorem rset_f {w : World} {B rb mb n : Nat} {D : DataW Value} {R : RS} (h : RoAt w B rb mb n D R) (e : Ent) (g : Value) (hg : Strs w g e.groups) (hl : e.groups.length ≤ 1000000) (hs : e.contact.size ≤ maxLen) (hn : n ≤ 1000000) (hBw : B ≤ w.heap.size)
    (hwas : R.wasKept e.contact = false) (hkept : e.kept = false) (hi : (e.half.i == 0) = true) :
    Calls Tryz.prog 65 #[.pointer (some ⟨rb, 0, none⟩), e.val g] w fun r w' => r = .returned (.tuple #[]) ∧ (∃ D', RoAt w' B rb mb (n) D' (R.del e.contact)) ∧ Upd w.heap.size (fun k => k = rb ∨ k = mb) w w' := by
  obtain ⟨contact, kept, name, groups, ⟨o, hn', i, m⟩⟩ := e
  simp only at hl hs hwas hkept hg ⊢
  simp only at hi
  subst hkept
  obtain ⟨GA, gc, hv⟩ : ∃ A cap, g = .slice A groups.length cap := let ⟨⟨A, cap, h, _⟩, _⟩ := hg; ⟨A, cap, h⟩
  subst hv
  have hcnt := RS.del_count h.apart contact 
  have hkl : R.kept ≤ 1000000 := by have := R.kept_le; have := h.own.size_le; rw [h.size] at this; omega
  have hwk := RS.wasKept_le (R := R) contact
  rw [hwas] at hcnt hwk
  simp only [if_true, if_false, Bool.false_eq_true] at hcnt hwk
  have hlt := h.lt
  obtain ⟨WB, hWB⟩ : ∃ WB, (w.alloc (.cells #[.string contact, .bool false, .string name, .slice GA groups.length gc, .int .i64 o, .int .u64 hn', .int .i64 i, .int .u64 m] 54)) = WB := ⟨_, rfl⟩
  have hBW : Below w.heap.size w WB := by rw [← hWB]; exact (Below.refl _ _).alloc (Nat.le_refl _) _
  have BX : WB.heap[w.heap.size]? = some (.cells #[.string contact, .bool false, .string name, .slice GA groups.length gc, .int .i64 o, .int .u64 hn', .int .i64 i, .int .u64 m] 54) := by rw [← hWB]; exact blk_new _ _
  have h1 := (h.below hBW).below ((Below.refl _ _).drew)
  obtain ⟨q, QA, qc, l1, hq⟩ := h1.was contact hs
  rw [hwas] at hq
  obtain ⟨qcontact, qkept, qname, qgroups, ⟨qo, qn, qi, qm⟩⟩ := q
  simp only [Ent.val] at hq l1
  subst hq
  have r4 : WB.cell? ⟨rb, 4, none⟩ = some (.map (some mb)) := blk_cell h1.cells 4
  have r5 : WB.cell? ⟨rb, 5, none⟩ = some (.int .i64 (R.kept : Nat)) := blk_cell h1.cells 5
  have rz5 : WB.frozen? ⟨rb, 5, none⟩ = false := blk_frozen h1.cells 5
  have hx0 : WB.cell? ⟨w.heap.size, 0, none⟩ = some (.string contact) := blk_cell BX 0
  have hx1 : WB.cell? ⟨w.heap.size, 1, none⟩ = some (.bool false) := blk_cell BX 1
  have hx2 : WB.cell? ⟨w.heap.size, 2, none⟩ = some (.string name) := blk_cell BX 2
  have hx3 : WB.cell? ⟨w.heap.size, 3, none⟩ = some (.slice GA groups.length gc) := blk_cell BX 3
  have hx4 : WB.cell? ⟨w.heap.size, 4, none⟩ = some (.int .i64 o) := blk_cell BX 4
  have hx5 : WB.cell? ⟨w.heap.size, 5, none⟩ = some (.int .u64 hn') := blk_cell BX 5
  have hx6 : WB.cell? ⟨w.heap.size, 6, none⟩ = some (.int .i64 i) := blk_cell BX 6
  have hx7 : WB.cell? ⟨w.heap.size, 7, none⟩ = some (.int .u64 m) := blk_cell BX 7
  have hi2 : (i != 0) = false := by rw [bne, hi]; rfl
  obtain ⟨K, hK⟩ : ∃ K, R.kept = K := ⟨_, rfl⟩
  rw [hK] at r5 hcnt hkl hwk h1
  have wr1 : IntKind.i64.wrap ((K : Int) - 1) = (K : Int) - 1 := IntWalk.i64_in _ (by omega)
  have wr2 : IntKind.i64.wrap ((K : Int) + 1) = (K : Int) + 1 := IntWalk.i64_in _ (by omega)
  have wr3 : IntKind.i64.wrap ((K : Int) - 1 + 1) = (K : Int) := by rw [show (K : Int) - 1 + 1 = K by omega]; exact IntWalk.i64_in _ (by omega)
  have hf : ∀ w, (Instr.field 54 (.agg #[.string qcontact, .bool false, .string qname, .slice QA qgroups.length qc, .int .i64 qo, .int .u64 qn, .int .i64 qi, .int .u64 qm]) 1).run Tryz.prog w = .ok (.bool false) w := fun _ => by kernel_rfl
  have HU0 : Upd w.heap.size (fun k => k = rb ∨ k = mb) w WB := Upd.of_below hBW (Nat.le_refl _)
  have hz0 : RoAtK WB B rb mb n D R (K : Int) := by rw [← hK]; exact h.below hBW
  have hgs0 := hg.below hBW
  have BZ := blk_drew BX
  have hgsZ := hgs0.below ((Below.refl _ _).drew)
  have HZ := Lib.hid (And.intro (hz0.below ((Below.refl _ _).drew)) (And.intro (HU0.drew) (And.intro BZ hgsZ)))
  have HC := Lib.hid (And.intro hcnt (And.intro hl (And.intro hs hn)))
  clear hz0 hcnt hl hs HU0 hwas h1 BX hg h hBW
  go_enter Tryz.func65, Tryz.ntmps65
  go_wp2_with fail
  go_region
  go_wp2_with fail
  generalize hwz : WB.drew = wz at HZ ⊢
  clear hwz hx0 hx1 hx2 hx3 hx4 hx5 hx6 hx7 r4 r5 rz5 hf wr1 wr2 wr3 l1 hWB
  have c4 : wz.cell? ⟨rb, 4, none⟩ = some (.map (some mb)) := blk_cell HZ.out.1.cells 4
  have hx0 : wz.cell? ⟨w.heap.size, 0, none⟩ = some (.string contact) := blk_cell HZ.out.2.2.1 0
  have hx1 : wz.cell? ⟨w.heap.size, 1, none⟩ = some (.bool false) := blk_cell HZ.out.2.2.1 1
  have hx2 : wz.cell? ⟨w.heap.size, 2, none⟩ = some (.string name) := blk_cell HZ.out.2.2.1 2
  have hx3 : wz.cell? ⟨w.heap.size, 3, none⟩ = some (.slice GA groups.length gc) := blk_cell HZ.out.2.2.1 3
  have hx4 : wz.cell? ⟨w.heap.size, 4, none⟩ = some (.int .i64 o) := blk_cell HZ.out.2.2.1 4
  have hx5 : wz.cell? ⟨w.heap.size, 5, none⟩ = some (.int .u64 hn') := blk_cell HZ.out.2.2.1 5
  have hx6 : wz.cell? ⟨w.heap.size, 6, none⟩ = some (.int .i64 i) := blk_cell HZ.out.2.2.1 6
  have hx7 : wz.cell? ⟨w.heap.size, 7, none⟩ = some (.int .u64 m) := blk_cell HZ.out.2.2.1 7
  have hltz := HZ.out.1.lt
  have hnez := HZ.out.1.ne
  have hltb := blk_lt HZ.out.2.2.1
  refine wp_region_still_tail 6 (by kernel_rfl) (by kernel_rfl) ?_
  change wpStill _ _ (World.drew _) _ _ _
  simp only [List.take_succ_cons, List.take_zero, List.drop_succ_cons, List.drop_zero]
  repeat (refine wpStill_step (fun K hK => ?_); go_simp; refine hK _ ?_; clear hK K)
  refine wpStill_nil ?_
  change wpList _ _ _ _ _ (World.drew _)
  have hown := (HZ.out.1.below ((Below.refl _ _).drew)).own
  go_wp2_with (at_delete; refine wpList_delete_own _ rfl _ _ 109 9 rfl 54 (string_keyed Tryz.underlying9) Tryz.underlying109 tokR mb n D rfl hown _ (keyL contact) rfl (WideMaps.keyOf_string_mk Tryz.underlying9 HC.out.2.2.1) ?_)
  intro w7 hown7 hturn7
  have hgr7 : wz.drew.grownBy w7 (some mb) := hturn7.grown
  have hwz2 := HZ.out.2.1.size
  have hfin := (HZ.out.1.below ((Below.refl _ _).drew)).drop hown7 hgr7
  have hkk : (K : Int) = (((R.del contact).kept : Nat) : Int) := by have := HC.out.1.1; omega
  rw [hkk] at hfin
  have hU := HZ.out.2.1.drew.trans (Upd.of_grown (ks := fun k => k = rb ∨ k = mb) hgr7 (.inr rfl) (Nat.le_refl _)) (by show w.heap.size ≤ wz.heap.size; omega)
  have HF := Lib.hid (And.intro hfin hU)
  clear hfin hU hkk hown7 hgr7 hturn7
  go_wp2_with fail
  go_end0
  exact ⟨rfl, ⟨_, HF.out.1⟩, HF.out.2⟩


/-- Laying an entry. -/
theorem rset_any {w : World} {B rb mb n : Nat} {D : DataW Value} {R : RS} (h : RoAt w B rb mb n D R) (e : Ent) (g : Value) (hg : Strs w g e.groups) (hl : e.groups.length ≤ 1000000) (hs : e.contact.size ≤ maxLen) (hn : n ≤ 1000000) (hBw : B ≤ w.heap.size) :
    Calls Tryz.prog 65 #[.pointer (some ⟨rb, 0, none⟩), e.val g] w fun r w' => r = .returned (.tuple #[]) ∧ (∃ n' D', n' ≤ n + 1 ∧ RoAt w' B rb mb n' D' (R.set e)) ∧ Upd w.heap.size (fun k => k = rb ∨ k = mb) w w' := by
  unfold RS.set
  cases hk : e.kept
  · cases hi : (e.half.i == 0)
    · simp only [Bool.false_or, Bool.not_false, if_true]
      cases hw : R.wasKept e.contact
      · exact (rset_d h e g hg hl hs hn hBw hw hk hi).mono fun r w' ⟨a, ⟨D', b⟩, c⟩ => ⟨a, ⟨_, D', Nat.le_refl _, b⟩, c⟩
      · exact (rset_c h e g hg hl hs hn hBw hw hk hi).mono fun r w' ⟨a, ⟨D', b⟩, c⟩ => ⟨a, ⟨_, D', Nat.le_refl _, b⟩, c⟩
    · simp only [Bool.false_or, Bool.not_true, Bool.false_eq_true, if_false]
      cases hw : R.wasKept e.contact
      · exact (rset_f h e g hg hl hs hn hBw hw hk hi).mono fun r w' ⟨a, ⟨D', b⟩, c⟩ => ⟨a, ⟨_, D', Nat.le_succ _, b⟩, c⟩
      · exact (rset_e h e g hg hl hs hn hBw hw hk hi).mono fun r w' ⟨a, ⟨D', b⟩, c⟩ => ⟨a, ⟨_, D', Nat.le_succ _, b⟩, c⟩
  · simp only [Bool.true_or, if_true]
    cases hw : R.wasKept e.contact
    · exact (rset_b h e g hg hl hs hn hBw hw hk).mono fun r w' ⟨a, ⟨D', b⟩, c⟩ => ⟨a, ⟨_, D', Nat.le_refl _, b⟩, c⟩
    · exact (rset_a h e g hg hl hs hn hBw hw hk).mono fun r w' ⟨a, ⟨D', b⟩, c⟩ => ⟨a, ⟨_, D', Nat.le_refl _, b⟩, c⟩

end Go.Proofs.YthbjcihdlhkboaaGreatDoor
