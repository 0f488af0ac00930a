/- The roster's entries: a twin, an entry, room for one. -/
import Derived.Test.YthbjcihdlhkboaaDoorRo2
import Derived.Lib.SliceRun
namespace Go.Proofs.YthbjcihdlhkboaaDoor
set_option linter.unusedSimpArgs false
set_option linter.unusedVariables false
open Go.RowKit Go.Maps Go.Shelf Go.Lib

theorem blk_set8 {w : World} {b : Nat} {x0 x1 x2 x3 x4 x5 x6 x7 : Value} {T : TypeId} (h : w.heap[b]? = some (.cells #[x0, x1, x2, x3, x4, x5, x6, x7] T)) (y0 y1 y2 y3 y4 y5 y6 y7 : Value) :
    ((((((((w.setCell ⟨b, 0, none⟩ y0).setCell ⟨b, 1, none⟩ y1).setCell ⟨b, 2, none⟩ y2).setCell ⟨b, 3, none⟩ y3).setCell ⟨b, 4, none⟩ y4).setCell ⟨b, 5, none⟩ y5).setCell ⟨b, 6, none⟩ y6).setCell ⟨b, 7, none⟩ y7).heap[b]? = some (.cells #[y0, y1, y2, y3, y4, y5, y6, y7] T) := by
  have h0 : (w.setCell ⟨b, 0, none⟩ y0).heap[b]? = some (.cells #[y0, x1, x2, x3, x4, x5, x6, x7] T) := blk_set_same h 0 y0
  have h1 : ((w.setCell ⟨b, 0, none⟩ y0).setCell ⟨b, 1, none⟩ y1).heap[b]? = some (.cells #[y0, y1, x2, x3, x4, x5, x6, x7] T) := blk_set_same h0 1 y1
  have h2 : (((w.setCell ⟨b, 0, none⟩ y0).setCell ⟨b, 1, none⟩ y1).setCell ⟨b, 2, none⟩ y2).heap[b]? = some (.cells #[y0, y1, y2, x3, x4, x5, x6, x7] T) := blk_set_same h1 2 y2
  have h3 : ((((w.setCell ⟨b, 0, none⟩ y0).setCell ⟨b, 1, none⟩ y1).setCell ⟨b, 2, none⟩ y2).setCell ⟨b, 3, none⟩ y3).heap[b]? = some (.cells #[y0, y1, y2, y3, x4, x5, x6, x7] T) := blk_set_same h2 3 y3
  have h4 : (((((w.setCell ⟨b, 0, none⟩ y0).setCell ⟨b, 1, none⟩ y1).setCell ⟨b, 2, none⟩ y2).setCell ⟨b, 3, none⟩ y3).setCell ⟨b, 4, none⟩ y4).heap[b]? = some (.cells #[y0, y1, y2, y3, y4, x5, x6, x7] T) := blk_set_same h3 4 y4
  have h5 : ((((((w.setCell ⟨b, 0, none⟩ y0).setCell ⟨b, 1, none⟩ y1).setCell ⟨b, 2, none⟩ y2).setCell ⟨b, 3, none⟩ y3).setCell ⟨b, 4, none⟩ y4).setCell ⟨b, 5, none⟩ y5).heap[b]? = some (.cells #[y0, y1, y2, y3, y4, y5, x6, x7] T) := blk_set_same h4 5 y5
  have h6 : (((((((w.setCell ⟨b, 0, none⟩ y0).setCell ⟨b, 1, none⟩ y1).setCell ⟨b, 2, none⟩ y2).setCell ⟨b, 3, none⟩ y3).setCell ⟨b, 4, none⟩ y4).setCell ⟨b, 5, none⟩ y5).setCell ⟨b, 6, none⟩ y6).heap[b]? = some (.cells #[y0, y1, y2, y3, y4, y5, y6, x7] T) := blk_set_same h5 6 y6
  have h7 : ((((((((w.setCell ⟨b, 0, none⟩ y0).setCell ⟨b, 1, none⟩ y1).setCell ⟨b, 2, none⟩ y2).setCell ⟨b, 3, none⟩ y3).setCell ⟨b, 4, none⟩ y4).setCell ⟨b, 5, none⟩ y5).setCell ⟨b, 6, none⟩ y6).setCell ⟨b, 7, none⟩ y7).heap[b]? = some (.cells #[y0, y1, y2, y3, y4, y5, y6, y7] T) := blk_set_same h6 7 y7
  exact h7
theorem below_set8 {w0 w : World} {B b : Nat} (h : Below B w0 w) (hB : B ≤ b) (y0 y1 y2 y3 y4 y5 y6 y7 : Value) : Below B w0 ((((((((w.setCell ⟨b, 0, none⟩ y0).setCell ⟨b, 1, none⟩ y1).setCell ⟨b, 2, none⟩ y2).setCell ⟨b, 3, none⟩ y3).setCell ⟨b, 4, none⟩ y4).setCell ⟨b, 5, none⟩ y5).setCell ⟨b, 6, none⟩ y6).setCell ⟨b, 7, none⟩ y7) := ((((((((h.setCell hB y0).setCell hB y1).setCell hB y2).setCell hB y3).setCell hB y4).setCell hB y5).setCell hB y6).setCell hB y7)
theorem upd_set8 {w0 w : World} {B b : Nat} {ks : Nat → Prop} (h : Upd B ks w0 w) (hB : ks b ∨ B ≤ b) (y0 y1 y2 y3 y4 y5 y6 y7 : Value) : Upd B ks w0 ((((((((w.setCell ⟨b, 0, none⟩ y0).setCell ⟨b, 1, none⟩ y1).setCell ⟨b, 2, none⟩ y2).setCell ⟨b, 3, none⟩ y3).setCell ⟨b, 4, none⟩ y4).setCell ⟨b, 5, none⟩ y5).setCell ⟨b, 6, none⟩ y6).setCell ⟨b, 7, none⟩ y7) := (Upd.setCell (Upd.setCell (Upd.setCell (Upd.setCell (Upd.setCell (Upd.setCell (Upd.setCell (Upd.setCell h hB y0) hB y1) hB y2) hB y3) hB y4) hB y5) hB y6) hB y7)

set_option maxRecDepth 100000 in
set_option maxHeartbeats 1000000 in
theorem clone_any (w : World) (v : Value) (gs : List ByteArray) (hg : Strs w v gs) (hl : gs.length ≤ 1000000) :
    Calls Tryd.prog 64 #[v] w fun e w' => (∃ A c, e = .returned (.slice A gs.length c) ∧ Grp w' w.heap.size (.slice A gs.length c) gs) ∧ Below w.heap.size w w' := by
  obtain ⟨⟨A, cap, hv, hf⟩, hm⟩ := hg
  subst hv
  cases A with
  | none =>
    have h0 : gs = [] := by
      cases gs with
      | nil => rfl
      | cons x xs => obtain ⟨b, off, h, _⟩ := hf (by simp); cases h
    subst h0
    clear hf
    have he := fun (w : World) => Lib.run_eql_slice_nil (P := Tryd.prog) w 43 9 none 0 cap 0 0 Tryd.underlying43
    go_enter Tryd.func64, Tryd.ntmps64
    go_wp2_with fail
    go_ret
    exact ⟨⟨none, 0, rfl, Grp.nil _ _⟩, Below.refl _ _⟩
  | some ad =>
    have hs : Src (w.alloc (.cells #[] 9)) 1 (some ad) gs.length (flatS gs) := by
      refine ⟨by simp [flatS_len], fun u hu => flatS_one hu, fun h0 => ⟨ad, rfl, fun j u hu => ?_⟩⟩
      obtain ⟨b, off, hA, hlb, hc⟩ := hf h0
      obtain rfl : ad = ⟨b, off, none⟩ := by simpa using hA
      have hj : j < gs.length := by rw [← flatS_len gs]; exact (List.getElem?_eq_some_iff.1 hu).1
      rw [Addr.add_lit]
      refine (Below.cell (B := w.heap.size) ((Below.refl _ _).alloc (Nat.le_refl _) _) hlb).trans ?_
      rw [hc j hj]
      rw [← hu]
      simp [flatS, List.getD_eq_getElem?_getD, List.getElem?_eq_getElem hj]
    have hz : Seq (w.alloc (.cells #[] 9)) w.heap.size 9 1 (.slice (some ⟨w.heap.size, 0, none⟩) 0 0) 0 [] :=
      ⟨rfl, .inr ⟨w.heap.size, 0, 0, #[], rfl, Nat.le_refl _, blk_new _ _, Nat.le_refl _, Nat.zero_le _, Nat.zero_le _, rfl⟩⟩
    have HS := Lib.hid hs
    have HZ := Lib.hid hz
    have HL := Lib.hid hl
    clear hs hz hf hm hl
    obtain ⟨i0, hi, hz0, hz1, hz2⟩ := info_parts strInfo
    have he := fun (w : World) => Lib.run_eql_slice_nil (P := Tryd.prog) w 43 9 (some ad) gs.length cap 0 0 Tryd.underlying43
    go_enter Tryd.func64, Tryd.ntmps64
    go_wp2_with (at_builtin; refine wpList_append_src _ rfl _ _ 43 rfl w.heap.size 9 i0 (.string ⟨#[]⟩) 1 16 Tryd.underlying43 hi hz0 hz1 hz2 rfl _ 0 [] rfl HZ.out _ gs.length _ (flatS gs) rfl HS.out ?c1 ?c2 ?c3 ?_)
    case c1 => have := HL.out; unfold maxLen; omega
    case c2 => have := HL.out; omega
    case c3 => simp
    intro v' w1 hseq hgrow
    have hb : Below w.heap.size w w1 := ((Below.refl _ w).alloc (Nat.le_refl _) _).grown hgrow (by simp) (by intro k hk; simp [Value.ownBlock] at hk; omega)
    try simp only [Nat.zero_add, List.nil_append] at hseq
    obtain ⟨A', c', rfl⟩ := hseq.shape
    have HF := Lib.hid (And.intro hb hseq)
    clear hb hseq hgrow
    go_wp2_with fail
    go_ret
    refine ⟨⟨A', c', rfl, ?_⟩, HF.out.1⟩
    by_cases h0 : gs = []
    · subst h0; exact .inl ⟨rfl, A', c', rfl⟩
    · exact .inr ⟨h0, HF.out.2⟩

set_option maxRecDepth 100000 in
set_option maxHeartbeats 2000000 in
theorem rtwin_any (w : World) (e : Ent) (g : Value) (hg : Strs w g e.groups) (hl : e.groups.length ≤ 1000000) :
    Calls Tryd.prog 37 #[e.val g] w fun r w' => (∃ A c, r = .returned (e.val (.slice A e.groups.length c)) ∧ Grp w' w.heap.size (.slice A e.groups.length c) e.groups) ∧ Below w.heap.size w w' := by
  obtain ⟨contact, kept, name, groups, ⟨o, n, i, m⟩⟩ := e
  simp only at hg hl ⊢
  obtain ⟨GA, gcap, hv⟩ : ∃ A cap, g = .slice A groups.length cap := let ⟨⟨A, cap, h, _⟩, _⟩ := hg; ⟨A, cap, h⟩
  subst hv
  have HC := Lib.hid (fun W (hW : Below w.heap.size w W) => clone_any W _ groups (hg.below hW) hl)
  clear hg hl
  go_enter Tryd.func37, Tryd.ntmps37
  go_wp2_with fail
  refine (HC.out _ (((Below.refl _ _).alloc (Nat.le_refl _) _).alloc (by simp) _)).mono ?_
  rintro r w1 ⟨⟨A, c, rfl, hgr⟩, hb1⟩
  have B0 : w1.heap[w.heap.size]? = some (.cells #[.string contact, .bool kept, .string name, .slice GA groups.length gcap, .int .i64 o, .int .u64 n, .int .i64 i, .int .u64 m] 47) := blk_below (blk_alloc (blk_new _ _) _) hb1 (by simp <;> omega)
  have B1 : w1.heap[w.heap.size + 1]? = some (.cells #[.string ⟨#[]⟩, .bool false, .string ⟨#[]⟩, .slice none 0 0, .int .i64 0, .int .u64 0, .int .i64 0, .int .u64 0] 47) := blk_below (blk_new' _ (by simp)) hb1 (by simp <;> omega)
  have hB : Below w.heap.size w w1 := (((Below.refl _ _).alloc (Nat.le_refl _) _).alloc (by simp) _).trans (hb1.mono (by simp <;> omega))
  have y0 : w1.cell? ⟨w.heap.size, 0, none⟩ = some (.string contact) := blk_cell B0 0
  have x0 : w1.cell? ⟨w.heap.size + 1, 0, none⟩ = some (.string ⟨#[]⟩) := blk_cell B1 0
  have z0 : w1.frozen? ⟨w.heap.size + 1, 0, none⟩ = false := blk_frozen B1 0
  have y1 : w1.cell? ⟨w.heap.size, 1, none⟩ = some (.bool kept) := blk_cell B0 1
  have x1 : w1.cell? ⟨w.heap.size + 1, 1, none⟩ = some (.bool false) := blk_cell B1 1
  have z1 : w1.frozen? ⟨w.heap.size + 1, 1, none⟩ = false := blk_frozen B1 1
  have y2 : w1.cell? ⟨w.heap.size, 2, none⟩ = some (.string name) := blk_cell B0 2
  have x2 : w1.cell? ⟨w.heap.size + 1, 2, none⟩ = some (.string ⟨#[]⟩) := blk_cell B1 2
  have z2 : w1.frozen? ⟨w.heap.size + 1, 2, none⟩ = false := blk_frozen B1 2
  have y3 : w1.cell? ⟨w.heap.size, 3, none⟩ = some (.slice GA groups.length gcap) := blk_cell B0 3
  have x3 : w1.cell? ⟨w.heap.size + 1, 3, none⟩ = some (.slice none 0 0) := blk_cell B1 3
  have z3 : w1.frozen? ⟨w.heap.size + 1, 3, none⟩ = false := blk_frozen B1 3
  have y4 : w1.cell? ⟨w.heap.size, 4, none⟩ = some (.int .i64 o) := blk_cell B0 4
  have x4 : w1.cell? ⟨w.heap.size + 1, 4, none⟩ = some (.int .i64 0) := blk_cell B1 4
  have z4 : w1.frozen? ⟨w.heap.size + 1, 4, none⟩ = false := blk_frozen B1 4
  have y5 : w1.cell? ⟨w.heap.size, 5, none⟩ = some (.int .u64 n) := blk_cell B0 5
  have x5 : w1.cell? ⟨w.heap.size + 1, 5, none⟩ = some (.int .u64 0) := blk_cell B1 5
  have z5 : w1.frozen? ⟨w.heap.size + 1, 5, none⟩ = false := blk_frozen B1 5
  have y6 : w1.cell? ⟨w.heap.size, 6, none⟩ = some (.int .i64 i) := blk_cell B0 6
  have x6 : w1.cell? ⟨w.heap.size + 1, 6, none⟩ = some (.int .i64 0) := blk_cell B1 6
  have z6 : w1.frozen? ⟨w.heap.size + 1, 6, none⟩ = false := blk_frozen B1 6
  have y7 : w1.cell? ⟨w.heap.size, 7, none⟩ = some (.int .u64 m) := blk_cell B0 7
  have x7 : w1.cell? ⟨w.heap.size + 1, 7, none⟩ = some (.int .u64 0) := blk_cell B1 7
  have z7 : w1.frozen? ⟨w.heap.size + 1, 7, none⟩ = false := blk_frozen B1 7
  have f3 : w1.frozen? ⟨w.heap.size, 3, none⟩ = false := blk_frozen B0 3
  have hgr2 : Grp w1 (w.heap.size + 1 + 1) (.slice A groups.length c) groups := by
    simp only [World.size_alloc] at hgr
    exact hgr
  have BB := blk_set8 (blk_set_other B1 (a := (⟨w.heap.size, 3, none⟩ : Addr)) (.slice A groups.length c) (by show w.heap.size + 1 ≠ w.heap.size; omega)) (.string contact) (.bool kept) (.string name) (.slice A groups.length c) (.int .i64 o) (.int .u64 n) (.int .i64 i) (.int .u64 m)
  have BL := Lib.hid (below_set8 (show Below w.heap.size w (w1.setCell ⟨w.heap.size, 3, none⟩ (.slice A groups.length c)) from hB.setCell (Nat.le_refl _) _) (b := w.heap.size + 1) (by omega) (.string contact) (.bool kept) (.string name) (.slice A groups.length c) (.int .i64 o) (.int .u64 n) (.int .i64 i) (.int .u64 m))
  have BU := upd_set8 (w0 := w1) (B := w1.heap.size) (ks := fun k => k < w.heap.size + 2) (b := w.heap.size + 1) (w := (w1.setCell ⟨w.heap.size, 3, none⟩ (.slice A groups.length c))) (Upd.setCell (ks := fun k => k < w.heap.size + 2) (Upd.refl _ _ _) (a := (⟨w.heap.size, 3, none⟩ : Addr)) (.inl (by show w.heap.size < w.heap.size + 2; omega)) _) (.inl (by omega)) (.string contact) (.bool kept) (.string name) (.slice A groups.length c) (.int .i64 o) (.int .u64 n) (.int .i64 i) (.int .u64 m)
  have HG := Lib.hid (And.intro hgr2 BU)
  clear hB hgr hgr2 BU hb1 HC B0 B1
  go_wp2_with fail
  generalize (((((((((w1.setCell ⟨w.heap.size, 3, none⟩ (.slice A groups.length c)).setCell ⟨w.heap.size + 1, 0, none⟩ (.string contact)).setCell ⟨w.heap.size + 1, 1, none⟩ (.bool kept)).setCell ⟨w.heap.size + 1, 2, none⟩ (.string name)).setCell ⟨w.heap.size + 1, 3, none⟩ (.slice A groups.length c)).setCell ⟨w.heap.size + 1, 4, none⟩ (.int .i64 o)).setCell ⟨w.heap.size + 1, 5, none⟩ (.int .u64 n)).setCell ⟨w.heap.size + 1, 6, none⟩ (.int .i64 i)).setCell ⟨w.heap.size + 1, 7, none⟩ (.int .u64 m)) = WW at *
  have k0 := blk_cell BB 0
  have k1 := blk_cell BB 1
  have k2 := blk_cell BB 2
  have k3 := blk_cell BB 3
  have k4 := blk_cell BB 4
  have k5 := blk_cell BB 5
  have k6 := blk_cell BB 6
  have k7 := blk_cell BB 7
  simp [bodyPost, results, Tryd.results37, go_sem, *]
  exact ⟨⟨A, c, ⟨rfl, rfl⟩, (HG.out.1.kept fun k cur hk hB => HG.out.2.block k (blk_lt hk) (by omega)).lower (by omega)⟩, BL.out⟩

end Go.Proofs.YthbjcihdlhkboaaDoor
