/- The roster's entries: a twin, an entry, room for one. The roster's entries: an entry by its name, room for one, laying one, what there is of one. -/
import Derived.Lib.SliceRun
import Derived.StillTailTactics
import Derived.Test.YthbjcihdlhkboaaGreatDoorQ10
namespace Go.Proofs.YthbjcihdlhkboaaGreatDoor
set_option linter.unusedSimpArgs false
set_option linter.unusedVariables false
open Go.RowKit Go.Maps Go.Shelf Go.Lib

theorem blk_set8 {w : World} {b : Nat} {x0 x1 x2 x3 x4 x5 x6 x7 : Value} {T : TypeId} (h : w.heap[b]? = some (.cells #[x0, x1, x2, x3, x4, x5, x6, x7] T)) (y0 y1 y2 y3 y4 y5 y6 y7 : Value) :
    ((((((((w.setCell ⟨b, 0, none⟩ y0).setCell ⟨b, 1, none⟩ y1).setCell ⟨b, 2, none⟩ y2).setCell ⟨b, 3, none⟩ y3).setCell ⟨b, 4, none⟩ y4).setCell ⟨b, 5, none⟩ y5).setCell ⟨b, 6, none⟩ y6).setCell ⟨b, 7, none⟩ y7).heap[b]? = some (.cells #[y0, y1, y2, y3, y4, y5, y6, y7] T) := by
  have h0 : (w.setCell ⟨b, 0, none⟩ y0).heap[b]? = some (.cells #[y0, x1, x2, x3, x4, x5, x6, x7] T) := blk_set_same h 0 y0
  have h1 : ((w.setCell ⟨b, 0, none⟩ y0).setCell ⟨b, 1, none⟩ y1).heap[b]? = some (.cells #[y0, y1, x2, x3, x4, x5, x6, x7] T) := blk_set_same h0 1 y1
  have h2 : (((w.setCell ⟨b, 0, none⟩ y0).setCell ⟨b, 1, none⟩ y1).setCell ⟨b, 2, none⟩ y2).heap[b]? = some (.cells #[y0, y1, y2, x3, x4, x5, x6, x7] T) := blk_set_same h1 2 y2
  have h3 : ((((w.setCell ⟨b, 0, none⟩ y0).setCell ⟨b, 1, none⟩ y1).setCell ⟨b, 2, none⟩ y2).setCell ⟨b, 3, none⟩ y3).heap[b]? = some (.cells #[y0, y1, y2, y3, x4, x5, x6, x7] T) := blk_set_same h2 3 y3
  have h4 : (((((w.setCell ⟨b, 0, none⟩ y0).setCell ⟨b, 1, none⟩ y1).setCell ⟨b, 2, none⟩ y2).setCell ⟨b, 3, none⟩ y3).setCell ⟨b, 4, none⟩ y4).heap[b]? = some (.cells #[y0, y1, y2, y3, y4, x5, x6, x7] T) := blk_set_same h3 4 y4
  have h5 : ((((((w.setCell ⟨b, 0, none⟩ y0).setCell ⟨b, 1, none⟩ y1).setCell ⟨b, 2, none⟩ y2).setCell ⟨b, 3, none⟩ y3).setCell ⟨b, 4, none⟩ y4).setCell ⟨b, 5, none⟩ y5).heap[b]? = some (.cells #[y0, y1, y2, y3, y4, y5, x6, x7] T) := blk_set_same h4 5 y5
  have h6 : (((((((w.setCell ⟨b, 0, none⟩ y0).setCell ⟨b, 1, none⟩ y1).setCell ⟨b, 2, none⟩ y2).setCell ⟨b, 3, none⟩ y3).setCell ⟨b, 4, none⟩ y4).setCell ⟨b, 5, none⟩ y5).setCell ⟨b, 6, none⟩ y6).heap[b]? = some (.cells #[y0, y1, y2, y3, y4, y5, y6, x7] T) := blk_set_same h5 6 y6
  have h7 : ((((((((w.setCell ⟨b, 0, none⟩ y0).setCell ⟨b, 1, none⟩ y1).setCell ⟨b, 2, none⟩ y2).setCell ⟨b, 3, none⟩ y3).setCell ⟨b, 4, none⟩ y4).setCell ⟨b, 5, none⟩ y5).setCell ⟨b, 6, none⟩ y6).setCell ⟨b, 7, none⟩ y7).heap[b]? = some (.cells #[y0, y1, y2, y3, y4, y5, y6, y7] T) := blk_set_same h6 7 y7
  exact h7
theorem below_set8 {w0 w : World} {B b : Nat} (h : Below B w0 w) (hB : B ≤ b) (y0 y1 y2 y3 y4 y5 y6 y7 : Value) : Below B w0 ((((((((w.setCell ⟨b, 0, none⟩ y0).setCell ⟨b, 1, none⟩ y1).setCell ⟨b, 2, none⟩ y2).setCell ⟨b, 3, none⟩ y3).setCell ⟨b, 4, none⟩ y4).setCell ⟨b, 5, none⟩ y5).setCell ⟨b, 6, none⟩ y6).setCell ⟨b, 7, none⟩ y7) := ((((((((h.setCell hB y0).setCell hB y1).setCell hB y2).setCell hB y3).setCell hB y4).setCell hB y5).setCell hB y6).setCell hB y7)
theorem upd_set8 {w0 w : World} {B b : Nat} {ks : Nat → Prop} (h : Upd B ks w0 w) (hB : ks b ∨ B ≤ b) (y0 y1 y2 y3 y4 y5 y6 y7 : Value) : Upd B ks w0 ((((((((w.setCell ⟨b, 0, none⟩ y0).setCell ⟨b, 1, none⟩ y1).setCell ⟨b, 2, none⟩ y2).setCell ⟨b, 3, none⟩ y3).setCell ⟨b, 4, none⟩ y4).setCell ⟨b, 5, none⟩ y5).setCell ⟨b, 6, none⟩ y6).setCell ⟨b, 7, none⟩ y7) := (Upd.setCell (Upd.setCell (Upd.setCell (Upd.setCell (Upd.setCell (Upd.setCell (Upd.setCell (Upd.setCell h hB y0) hB y1) hB y2) hB y3) hB y4) hB y5) hB y6) hB y7)

set_option maxRecDepth 100000 in
set_option maxHeartbeats 1000000 in
theorem clone_any (w : World) (v : Value) (gs : List ByteArray) (hg : Strs w v gs) (hl : gs.length ≤ 1000000) :
    Calls Tryz.prog 152 #[v] w fun e w' => (∃ A c, e = .returned (.slice A gs.length c) ∧ Grp w' w.heap.size (.slice A gs.length c) gs) ∧ Below w.heap.size w w' := by
  obtain ⟨⟨A, cap, hv, hf⟩, hm⟩ := hg
  subst hv
  cases A with
  | none =>
    have h0 : gs = [] := by
      cases gs with
      | nil => rfl
      | cons x xs => obtain ⟨b, off, h, _⟩ := hf (by simp); cases h
    subst h0
    clear hf
    have he := fun (w : World) => Lib.run_eql_slice_nil (P := Tryz.prog) w 32 9 none 0 cap 0 0 Tryz.underlying32
    go_enter Tryz.func152, Tryz.ntmps152
    go_wp2_with fail
    go_ret
    exact ⟨⟨none, 0, rfl, Grp.nil _ _⟩, Below.refl _ _⟩
  | some ad =>
    have hs : Src (w.alloc (.cells #[] 9)) 1 (some ad) gs.length (flatS gs) := by
      refine ⟨by simp [flatS_len], fun u hu => flatS_one hu, fun h0 => ⟨ad, rfl, fun j u hu => ?_⟩⟩
      obtain ⟨b, off, hA, hlb, hc⟩ := hf h0
      obtain rfl : ad = ⟨b, off, none⟩ := by simpa using hA
      have hj : j < gs.length := by rw [← flatS_len gs]; exact (List.getElem?_eq_some_iff.1 hu).1
      rw [Addr.add_lit]
      refine (Below.cell (B := w.heap.size) ((Below.refl _ _).alloc (Nat.le_refl _) _) hlb).trans ?_
      rw [hc j hj]
      rw [← hu]
      simp [flatS, List.getD_eq_getElem?_getD, List.getElem?_eq_getElem hj]
    have hz : Seq (w.alloc (.cells #[] 9)) w.heap.size 9 1 (.slice (some ⟨w.heap.size, 0, none⟩) 0 0) 0 [] :=
      ⟨rfl, .inr ⟨w.heap.size, 0, 0, #[], rfl, Nat.le_refl _, blk_new _ _, Nat.le_refl _, Nat.zero_le _, Nat.zero_le _, rfl⟩⟩
    have HS := Lib.hid hs
    have HZ := Lib.hid hz
    have HL := Lib.hid hl
    clear hs hz hf hm hl
    obtain ⟨i0, hi, hz0, hz1, hz2⟩ := info_parts strInfo
    have he := fun (w : World) => Lib.run_eql_slice_nil (P := Tryz.prog) w 32 9 (some ad) gs.length cap 0 0 Tryz.underlying32
    go_enter Tryz.func152, Tryz.ntmps152
    go_wp2_with (at_builtin; refine wpList_append_src _ rfl _ _ 32 rfl w.heap.size 9 i0 (.string ⟨#[]⟩) 1 16 Tryz.underlying32 hi hz0 hz1 hz2 rfl _ 0 [] rfl HZ.out _ gs.length _ (flatS gs) rfl HS.out ?c1 ?c2 ?c3 ?_)
    case c1 => have := HL.out; unfold maxLen; omega
    case c2 => have := HL.out; omega
    case c3 => simp
    intro v' w1 hseq hgrow
    have hb : Below w.heap.size w w1 := ((Below.refl _ w).alloc (Nat.le_refl _) _).grown hgrow (by simp) (by intro k hk; simp [Value.ownBlock] at hk; omega)
    try simp only [Nat.zero_add, List.nil_append] at hseq
    obtain ⟨A', c', rfl⟩ := hseq.shape
    have HF := Lib.hid (And.intro hb hseq)
    clear hb hseq hgrow
    go_wp2_with fail
    go_ret
    refine ⟨⟨A', c', rfl, ?_⟩, HF.out.1⟩
    by_cases h0 : gs = []
    · subst h0; exact .inl ⟨rfl, A', c', rfl⟩
    · exact .inr ⟨h0, HF.out.2⟩

set_option maxRecDepth 100000 in
set_option maxHeartbeats 2000000 in
theorem rtwin_any (w : World) (e : Ent) (g : Value) (hg : Strs w g e.groups) (hl : e.groups.length ≤ 1000000) :
    Calls Tryz.prog 111 #[e.val g] w fun r w' => (∃ A c, r = .returned (e.val (.slice A e.groups.length c)) ∧ Grp w' w.heap.size (.slice A e.groups.length c) e.groups) ∧ Below w.heap.size w w' := by
  obtain ⟨contact, kept, name, groups, ⟨o, n, i, m⟩⟩ := e
  simp only at hg hl ⊢
  obtain ⟨GA, gcap, hv⟩ : ∃ A cap, g = .slice A groups.length cap := let ⟨⟨A, cap, h, _⟩, _⟩ := hg; ⟨A, cap, h⟩
  subst hv
  have HC := Lib.hid (fun W (hW : Below w.heap.size w W) => clone_any W _ groups (hg.below hW) hl)
  clear hg hl
  go_enter Tryz.func111, Tryz.ntmps111
  go_wp2_with fail
  refine (HC.out _ (((Below.refl _ _).alloc (Nat.le_refl _) _).alloc (by simp) _)).mono ?_
  rintro r w1 ⟨⟨A, c, rfl, hgr⟩, hb1⟩
  have B0 : w1.heap[w.heap.size]? = some (.cells #[.string contact, .bool kept, .string name, .slice GA groups.length gcap, .int .i64 o, .int .u64 n, .int .i64 i, .int .u64 m] 54) := blk_below (blk_alloc (blk_new _ _) _) hb1 (by simp <;> omega)
  have B1 : w1.heap[w.heap.size + 1]? = some (.cells #[.string ⟨#[]⟩, .bool false, .string ⟨#[]⟩, .slice none 0 0, .int .i64 0, .int .u64 0, .int .i64 0, .int .u64 0] 54) := blk_below (blk_new' _ (by simp)) hb1 (by simp <;> omega)
  have hB : Below w.heap.size w w1 := (((Below.refl _ _).alloc (Nat.le_refl _) _).alloc (by simp) _).trans (hb1.mono (by simp <;> omega))
  have y0 : w1.cell? ⟨w.heap.size, 0, none⟩ = some (.string contact) := blk_cell B0 0
  have x0 : w1.cell? ⟨w.heap.size + 1, 0, none⟩ = some (.string ⟨#[]⟩) := blk_cell B1 0
  have z0 : w1.frozen? ⟨w.heap.size + 1, 0, none⟩ = false := blk_frozen B1 0
  have y1 : w1.cell? ⟨w.heap.size, 1, none⟩ = some (.bool kept) := blk_cell B0 1
  have x1 : w1.cell? ⟨w.heap.size + 1, 1, none⟩ = some (.bool false) := blk_cell B1 1
  have z1 : w1.frozen? ⟨w.heap.size + 1, 1, none⟩ = false := blk_frozen B1 1
  have y2 : w1.cell? ⟨w.heap.size, 2, none⟩ = some (.string name) := blk_cell B0 2
  have x2 : w1.cell? ⟨w.heap.size + 1, 2, none⟩ = some (.string ⟨#[]⟩) := blk_cell B1 2
  have z2 : w1.frozen? ⟨w.heap.size + 1, 2, none⟩ = false := blk_frozen B1 2
  have y3 : w1.cell? ⟨w.heap.size, 3, none⟩ = some (.slice GA groups.length gcap) := blk_cell B0 3
  have x3 : w1.cell? ⟨w.heap.size + 1, 3, none⟩ = some (.slice none 0 0) := blk_cell B1 3
  have z3 : w1.frozen? ⟨w.heap.size + 1, 3, none⟩ = false := blk_frozen B1 3
  have y4 : w1.cell? ⟨w.heap.size, 4, none⟩ = some (.int .i64 o) := blk_cell B0 4
  have x4 : w1.cell? ⟨w.heap.size + 1, 4, none⟩ = some (.int .i64 0) := blk_cell B1 4
  have z4 : w1.frozen? ⟨w.heap.size + 1, 4, none⟩ = false := blk_frozen B1 4
  have y5 : w1.cell? ⟨w.heap.size, 5, none⟩ = some (.int .u64 n) := blk_cell B0 5
  have x5 : w1.cell? ⟨w.heap.size + 1, 5, none⟩ = some (.int .u64 0) := blk_cell B1 5
  have z5 : w1.frozen? ⟨w.heap.size + 1, 5, none⟩ = false := blk_frozen B1 5
  have y6 : w1.cell? ⟨w.heap.size, 6, none⟩ = some (.int .i64 i) := blk_cell B0 6
  have x6 : w1.cell? ⟨w.heap.size + 1, 6, none⟩ = some (.int .i64 0) := blk_cell B1 6
  have z6 : w1.frozen? ⟨w.heap.size + 1, 6, none⟩ = false := blk_frozen B1 6
  have y7 : w1.cell? ⟨w.heap.size, 7, none⟩ = some (.int .u64 m) := blk_cell B0 7
  have x7 : w1.cell? ⟨w.heap.size + 1, 7, none⟩ = some (.int .u64 0) := blk_cell B1 7
  have z7 : w1.frozen? ⟨w.heap.size + 1, 7, none⟩ = false := blk_frozen B1 7
  have f3 : w1.frozen? ⟨w.heap.size, 3, none⟩ = false := blk_frozen B0 3
  have hgr2 : Grp w1 (w.heap.size + 1 + 1) (.slice A groups.length c) groups := by
    simp only [World.size_alloc] at hgr
    exact hgr
  have BB := blk_set8 (blk_set_other B1 (a := (⟨w.heap.size, 3, none⟩ : Addr)) (.slice A groups.length c) (by show w.heap.size + 1 ≠ w.heap.size; omega)) (.string contact) (.bool kept) (.string name) (.slice A groups.length c) (.int .i64 o) (.int .u64 n) (.int .i64 i) (.int .u64 m)
  have BL := Lib.hid (below_set8 (show Below w.heap.size w (w1.setCell ⟨w.heap.size, 3, none⟩ (.slice A groups.length c)) from hB.setCell (Nat.le_refl _) _) (b := w.heap.size + 1) (by omega) (.string contact) (.bool kept) (.string name) (.slice A groups.length c) (.int .i64 o) (.int .u64 n) (.int .i64 i) (.int .u64 m))
  have BU := upd_set8 (w0 := w1) (B := w1.heap.size) (ks := fun k => k < w.heap.size + 2) (b := w.heap.size + 1) (w := (w1.setCell ⟨w.heap.size, 3, none⟩ (.slice A groups.length c))) (Upd.setCell (ks := fun k => k < w.heap.size + 2) (Upd.refl _ _ _) (a := (⟨w.heap.size, 3, none⟩ : Addr)) (.inl (by show w.heap.size < w.heap.size + 2; omega)) _) (.inl (by omega)) (.string contact) (.bool kept) (.string name) (.slice A groups.length c) (.int .i64 o) (.int .u64 n) (.int .i64 i) (.int .u64 m)
  have HG := Lib.hid (And.intro hgr2 BU)
  clear hB hgr hgr2 BU hb1 HC B0 B1
  go_wp2_with fail
  generalize (((((((((w1.setCell ⟨w.heap.size, 3, none⟩ (.slice A groups.length c)).setCell ⟨w.heap.size + 1, 0, none⟩ (.string contact)).setCell ⟨w.heap.size + 1, 1, none⟩ (.bool kept)).setCell ⟨w.heap.size + 1, 2, none⟩ (.string name)).setCell ⟨w.heap.size + 1, 3, none⟩ (.slice A groups.length c)).setCell ⟨w.heap.size + 1, 4, none⟩ (.int .i64 o)).setCell ⟨w.heap.size + 1, 5, none⟩ (.int .u64 n)).setCell ⟨w.heap.size + 1, 6, none⟩ (.int .i64 i)).setCell ⟨w.heap.size + 1, 7, none⟩ (.int .u64 m)) = WW at *
  have k0 := blk_cell BB 0
  have k1 := blk_cell BB 1
  have k2 := blk_cell BB 2
  have k3 := blk_cell BB 3
  have k4 := blk_cell BB 4
  have k5 := blk_cell BB 5
  have k6 := blk_cell BB 6
  have k7 := blk_cell BB 7
  simp [bodyPost, results, Tryz.results111, go_sem, *]
  exact ⟨⟨A, c, ⟨rfl, rfl⟩, (HG.out.1.kept fun k cur hk hB => HG.out.2.block k (blk_lt hk) (by omega)).lower (by omega)⟩, BL.out⟩

end Go.Proofs.YthbjcihdlhkboaaGreatDoor

namespace Go.Proofs.YthbjcihdlhkboaaGreatDoor
set_option linter.unusedSimpArgs false
set_option linter.unusedVariables false
open Go.RowKit Go.Maps Go.Shelf Go.Lib

theorem entZero (w : World) : (zeroValue 54).run Tryz.prog w = .ok (.agg #[.string ⟨#[]⟩, .bool false, .string ⟨#[]⟩, .slice none 0 0, .int .i64 0, .int .u64 0, .int .i64 0, .int .u64 0]) w := by kernel_rfl

theorem RoAtK.look {w : World} {B rb mb n : Nat} {D : DataW Value} {R : RS} {kc : Int} (h : RoAtK w B rb mb n D R kc) (s : ByteArray) (hs : s.size ≤ maxLen) :
    (R.get s = none ∧ (Instr.lookup 109 (.map (some mb)) (.string s) true).run Tryz.prog w = .ok (.tuple #[(Ent.new ⟨#[]⟩).val (.slice none 0 0), .bool false]) w ∧
      (Instr.lookup 109 (.map (some mb)) (.string s) false).run Tryz.prog w = .ok ((Ent.new ⟨#[]⟩).val (.slice none 0 0)) w) ∨
    ∃ A c e, R.get s = some e ∧ (Instr.lookup 109 (.map (some mb)) (.string s) true).run Tryz.prog w = .ok (.tuple #[e.val (.slice A e.groups.length c), .bool true]) w ∧
      (Instr.lookup 109 (.map (some mb)) (.string s) false).run Tryz.prog w = .ok (e.val (.slice A e.groups.length c)) w ∧ (e.contact = s ∧ e.groups.length ≤ 1000000) ∧ Grp w B (.slice A e.groups.length c) e.groups := by
  have l1 := look_ok_eq h.own h.ok Tryz.underlying9 Tryz.underlying109 (entZero w) hs
  have l2 := look_eq h.own h.ok Tryz.underlying9 Tryz.underlying109 (entZero w) hs
  rcases h.lists s with ⟨a, b⟩ | ⟨g, e, a, b, c, d⟩
  · rw [a] at l1 l2
    exact .inl ⟨b, l1, l2⟩
  · rw [a] at l1 l2
    obtain ⟨A, cc, rfl⟩ := d.shape
    exact .inr ⟨A, cc, e, b, l1, l2, c, d⟩

set_option maxRecDepth 100000 in
set_option maxHeartbeats 4000000 in
theorem rentry_any {w : World} {B rb mb n : Nat} {D : DataW Value} {R : RS} {kc : Int} (h : RoAtK w B rb mb n D R kc) (s : ByteArray) (hs : s.size ≤ maxLen) :
    Calls Tryz.prog 62 #[.pointer (some ⟨rb, 0, none⟩), .string s] w fun r w' => (∃ A c, r = .returned ((R.entry s).val (.slice A (R.entry s).groups.length c)) ∧ Grp w' w.heap.size (.slice A (R.entry s).groups.length c) (R.entry s).groups) ∧ Below w.heap.size w w' := by
  have c4 : w.cell? ⟨rb, 4, none⟩ = some (.map (some mb)) := blk_cell h.cells 4
  have hlt := h.lt.1
  rcases (h.below ((Below.refl _ _).alloc (Nat.le_refl _) (.cells #[.string ⟨#[]⟩, .bool false, .string ⟨#[]⟩, .slice none 0 0, .int .i64 0, .int .u64 0, .int .i64 0, .int .u64 0] 54))).look s hs with ⟨hg, l1, _⟩ | ⟨GA, gc, e, hg, l1, _, ⟨hc, hl⟩, hgr⟩
  · have he : R.entry s = Ent.new s := by unfold RS.entry; rw [hg]; rfl
    rw [he]
    simp only [Ent.val, Ent.new] at l1 ⊢
    clear hg he h
    go_enter Tryz.func62, Tryz.ntmps62
    go_wp2_with fail
    simp [bodyPost, results, Tryz.results62, go_sem, *]
    exact ⟨⟨none, 0, ⟨rfl, rfl⟩, Grp.nil _ _⟩, ((Below.refl _ _).alloc (Nat.le_refl _) _).alloc (by simp) _⟩
  · have he : R.entry s = e := by unfold RS.entry; rw [hg]; rfl
    rw [he]
    obtain ⟨contact, kept, name, groups, ⟨o, hn, i, m⟩⟩ := e
    simp only at hc hl hgr ⊢
    simp only [Ent.val] at l1
    have HT := Lib.hid (fun W (hW : Below (w.alloc (.cells #[.string ⟨#[]⟩, .bool false, .string ⟨#[]⟩, .slice none 0 0, .int .i64 0, .int .u64 0, .int .i64 0, .int .u64 0] 54)).heap.size (w.alloc (.cells #[.string ⟨#[]⟩, .bool false, .string ⟨#[]⟩, .slice none 0 0, .int .i64 0, .int .u64 0, .int .i64 0, .int .u64 0] 54)) W) => rtwin_any W ⟨contact, kept, name, groups, ⟨o, hn, i, m⟩⟩ _ (hgr.strs.below hW) hl)
    clear hg he h hgr hc hl
    go_enter Tryz.func62, Tryz.ntmps62
    go_wp2_with fail
    refine (HT.out _ (by repeat (first | exact Below.refl _ _ | refine Below.alloc ?_ (by first | (simp; done) | (simp; omega)) _))).mono ?_
    rintro r w1 ⟨⟨A, c, rfl, hgr⟩, hb1⟩
    have B0 : w1.heap[w.heap.size]? = some (.cells #[.string ⟨#[]⟩, .bool false, .string ⟨#[]⟩, .slice none 0 0, .int .i64 0, .int .u64 0, .int .i64 0, .int .u64 0] 54) := blk_below (blk_alloc (blk_new _ _) _) hb1 (by simp <;> omega)
    have hB : Below w.heap.size w w1 := (((Below.refl _ _).alloc (Nat.le_refl _) _).alloc (by simp) _).trans (hb1.mono (by simp <;> omega))
    have x0 : w1.cell? ⟨w.heap.size, 0, none⟩ = some (.string ⟨#[]⟩) := blk_cell B0 0
    have z0 : w1.frozen? ⟨w.heap.size, 0, none⟩ = false := blk_frozen B0 0
    have x1 : w1.cell? ⟨w.heap.size, 1, none⟩ = some (.bool false) := blk_cell B0 1
    have z1 : w1.frozen? ⟨w.heap.size, 1, none⟩ = false := blk_frozen B0 1
    have x2 : w1.cell? ⟨w.heap.size, 2, none⟩ = some (.string ⟨#[]⟩) := blk_cell B0 2
    have z2 : w1.frozen? ⟨w.heap.size, 2, none⟩ = false := blk_frozen B0 2
    have x3 : w1.cell? ⟨w.heap.size, 3, none⟩ = some (.slice none 0 0) := blk_cell B0 3
    have z3 : w1.frozen? ⟨w.heap.size, 3, none⟩ = false := blk_frozen B0 3
    have x4 : w1.cell? ⟨w.heap.size, 4, none⟩ = some (.int .i64 0) := blk_cell B0 4
    have z4 : w1.frozen? ⟨w.heap.size, 4, none⟩ = false := blk_frozen B0 4
    have x5 : w1.cell? ⟨w.heap.size, 5, none⟩ = some (.int .u64 0) := blk_cell B0 5
    have z5 : w1.frozen? ⟨w.heap.size, 5, none⟩ = false := blk_frozen B0 5
    have x6 : w1.cell? ⟨w.heap.size, 6, none⟩ = some (.int .i64 0) := blk_cell B0 6
    have z6 : w1.frozen? ⟨w.heap.size, 6, none⟩ = false := blk_frozen B0 6
    have x7 : w1.cell? ⟨w.heap.size, 7, none⟩ = some (.int .u64 0) := blk_cell B0 7
    have z7 : w1.frozen? ⟨w.heap.size, 7, none⟩ = false := blk_frozen B0 7
    have hgr2 : Grp w1 (w.heap.size + 1 + 1) (.slice A groups.length c) groups := by
      simp only [World.size_alloc] at hgr
      exact hgr
    have BB := blk_set8 B0 (.string contact) (.bool kept) (.string name) (.slice A groups.length c) (.int .i64 o) (.int .u64 hn) (.int .i64 i) (.int .u64 m)
    have BL := Lib.hid (below_set8 hB (b := w.heap.size) (Nat.le_refl _) (.string contact) (.bool kept) (.string name) (.slice A groups.length c) (.int .i64 o) (.int .u64 hn) (.int .i64 i) (.int .u64 m))
    have BU := upd_set8 (w0 := w1) (B := w1.heap.size) (ks := fun k => k < w.heap.size + 1) (b := w.heap.size) (w := w1) (Upd.refl _ _ _) (.inl (by omega)) (.string contact) (.bool kept) (.string name) (.slice A groups.length c) (.int .i64 o) (.int .u64 hn) (.int .i64 i) (.int .u64 m)
    have HG := Lib.hid (And.intro hgr2 BU)
    clear hB hgr hgr2 BU hb1 HT B0 l1
    go_wp2_with fail
    generalize ((((((((w1.setCell ⟨w.heap.size, 0, none⟩ (.string contact)).setCell ⟨w.heap.size, 1, none⟩ (.bool kept)).setCell ⟨w.heap.size, 2, none⟩ (.string name)).setCell ⟨w.heap.size, 3, none⟩ (.slice A groups.length c)).setCell ⟨w.heap.size, 4, none⟩ (.int .i64 o)).setCell ⟨w.heap.size, 5, none⟩ (.int .u64 hn)).setCell ⟨w.heap.size, 6, none⟩ (.int .i64 i)).setCell ⟨w.heap.size, 7, none⟩ (.int .u64 m)) = WW at *
    have k0 := blk_cell BB 0
    have k1 := blk_cell BB 1
    have k2 := blk_cell BB 2
    have k3 := blk_cell BB 3
    have k4 := blk_cell BB 4
    have k5 := blk_cell BB 5
    have k6 := blk_cell BB 6
    have k7 := blk_cell BB 7
    simp [bodyPost, results, Tryz.results62, go_sem, *]
    exact ⟨⟨A, c, ⟨rfl, rfl⟩, (HG.out.1.kept fun k cur hk hB => HG.out.2.block k (blk_lt hk) (by omega)).lower (by omega)⟩, BL.out⟩

set_option maxRecDepth 100000 in
set_option maxHeartbeats 4000000 in
theorem room_kept {w : World} {B rb mb n : Nat} {D : DataW Value} {R : RS} (h : RoAt w B rb mb n D R) (e : Ent) (g : Value) (hk : e.kept = true) :
    Calls Tryz.prog 63 #[.pointer (some ⟨rb, 0, none⟩), e.val g] w fun r w' => r = .returned (.tuple #[]) ∧ Below w.heap.size w w' := by
  obtain ⟨contact, kept, name, groups, ⟨o, hn, i, m⟩⟩ := e
  simp only at hk
  subst hk
  have hlt := h.lt.1
  clear h
  go_enter Tryz.func63, Tryz.ntmps63
  go_wp2_with fail
  go_quiet ((go_at_call 67; exact Calls.quiet_of_same (rmust_yes _ _)))
  go_wp2_with fail
  go_end0
  exact ⟨rfl, Below.trans ((Below.refl _ _).alloc (Nat.le_refl _) _) ((below_drewNg _ _).mono (by simp))⟩

set_option maxRecDepth 100000 in
set_option maxHeartbeats 4000000 in
theorem room_new {w : World} {B rb mb n : Nat} {D : DataW Value} {R : RS} (h : RoAt w B rb mb n D R) (e : Ent) (g : Value) (hk : e.kept = false) (hr : (R.kept : Int) < R.items) :
    Calls Tryz.prog 63 #[.pointer (some ⟨rb, 0, none⟩), e.val g] w fun r w' => r = .returned (.tuple #[]) ∧ Below w.heap.size w w' := by
  obtain ⟨contact, kept, name, groups, ⟨o, hn, i, m⟩⟩ := e
  simp only at hk
  subst hk
  have hlt := h.lt.1
  have c0 : w.cell? ⟨rb, 0, none⟩ = some (.int .i64 R.items) := blk_cell h.cells 0
  have c5 : w.cell? ⟨rb, 5, none⟩ = some (.int .i64 (R.kept : Nat)) := blk_cell h.cells 5
  have hd : decide ((R.kept : Int) < R.items) = true := by simpa using hr
  generalize (R.kept : Int) = kc at *
  clear h
  go_enter Tryz.func63, Tryz.ntmps63
  go_wp2_with fail
  go_quiet ((go_at_call 67; exact Calls.quiet_of_same (rmust_yes _ _)))
  go_wp2_with fail
  go_end0
  exact ⟨rfl, Below.trans ((Below.refl _ _).alloc (Nat.le_refl _) _) ((below_drewNg _ _).mono (by simp))⟩

set_option maxRecDepth 100000 in
set_option maxHeartbeats 4000000 in
theorem room_full {w : World} {B rb mb n : Nat} {D : DataW Value} {R : RS} (h : RoAt w B rb mb n D R) (e : Ent) (g : Value) (hk : e.kept = false) (hr : ¬ (R.kept : Int) < R.items) :
    Calls Tryz.prog 63 #[.pointer (some ⟨rb, 0, none⟩), e.val g] w fun r w' => r = .panicked [{ v := rfailsV 8, recovered := false }] ∧ Below w.heap.size w w' := by
  obtain ⟨contact, kept, name, groups, ⟨o, hn, i, m⟩⟩ := e
  simp only at hk
  subst hk
  have hlt := h.lt.1
  have c0 : w.cell? ⟨rb, 0, none⟩ = some (.int .i64 R.items) := blk_cell h.cells 0
  have c5 : w.cell? ⟨rb, 5, none⟩ = some (.int .i64 (R.kept : Nat)) := blk_cell h.cells 5
  have hd : decide ((R.kept : Int) < R.items) = false := by simpa using hr
  generalize (R.kept : Int) = kc at *
  clear h
  go_enter Tryz.func63, Tryz.ntmps63
  go_wp2_with fail
  refine wp_region_still_tail 13 (by kernel_rfl) (by kernel_rfl) ?_
  change wpStill _ _ (World.drew _) _ _ _
  simp only [List.take_succ_cons, List.take_zero, List.drop_succ_cons, List.drop_zero]
  repeat (refine wpStill_step (fun K hK => ?_); go_simp; refine hK _ ?_; clear hK K)
  refine wpStill_nil ?_
  go_wp2_with fail
  refine (rmust_no 8 (by decide) _).mono ?_
  rintro e w' ⟨rfl, rfl⟩
  go_wp2_with fail
  exact ⟨rfl, rfl, by repeat (first | exact Below.refl _ _ | refine Below.drew ?_ | refine Below.alloc ?_ (by first | (simp; done) | (simp; omega)) _)⟩

theorem localS_le (s : ByteArray) : (localS s).1.size ≤ 256 := by
  by_cases h : s.size ≤ 64
  · have := localS_small s
    omega
  · have e5 : wordE s (validB s) = 5 := by unfold wordE; rw [if_pos (by omega)]
    unfold localS
    rw [e5, if_neg (by decide)]
    show (0 : Nat) ≤ 256
    omega

set_option maxRecDepth 100000 in
set_option maxHeartbeats 4000000 in
theorem rget_any {w : World} {B rb mb n : Nat} {D : DataW Value} {R : RS} {kc : Int} (h : RoAtK w B rb mb n D R kc) (hT : Tabs w) (s : ByteArray) (hs : s.size ≤ 9223372036854775807) :
    Calls Tryz.prog 55 #[.pointer (some ⟨rb, 0, none⟩), .string s] w fun r w' =>
      (∃ A c, r = .returned (.tuple #[((R.get (localS s).1).getD (Ent.new ⟨#[]⟩)).val (.slice A ((R.get (localS s).1).getD (Ent.new ⟨#[]⟩)).groups.length c), .bool (R.get (localS s).1).isSome]) ∧ Grp w' w.heap.size (.slice A ((R.get (localS s).1).getD (Ent.new ⟨#[]⟩)).groups.length c) ((R.get (localS s).1).getD (Ent.new ⟨#[]⟩)).groups) ∧ Below w.heap.size w w' := by
  have C1 := Lib.hid (fun W (hW : Below w.heap.size w W) => local_full s W (hT.later hW) hs)
  have hcs := localS_le s
  generalize (localS s).1 = x at *
  generalize (localS s).2 = ec at *
  have H := Lib.hid h
  have hlt := h.lt.1
  obtain ⟨e, he⟩ : ∃ e, (R.get x).getD (Ent.new ⟨#[]⟩) = e := ⟨_, rfl⟩
  obtain ⟨b, hb⟩ : ∃ b, (R.get x).isSome = b := ⟨_, rfl⟩
  rw [he, hb]
  have HE := Lib.hid (And.intro he hb)
  clear h hT hs he hb
  go_enter Tryz.func55, Tryz.ntmps55
  go_wp2_with fail
  refine (C1.out _ ((Below.refl _ _).alloc (Nat.le_refl _) _)).mono ?_
  rintro r w1 ⟨rfl, hb1⟩
  have B0 : w1.heap[w.heap.size]? = some (.cells #[.string ⟨#[]⟩, .bool false, .string ⟨#[]⟩, .slice none 0 0, .int .i64 0, .int .u64 0, .int .i64 0, .int .u64 0] 54) := blk_below (blk_new _ _) hb1 (by simp <;> omega)
  have hB : Below w.heap.size w w1 := ((Below.refl _ _).alloc (Nat.le_refl _) _).trans (hb1.mono (by simp <;> omega))
  have H1 := Lib.hid (H.out.below hB)
  have HB := Lib.hid (And.intro hB B0)
  have c4 : w1.cell? ⟨rb, 4, none⟩ = some (.map (some mb)) := blk_cell H1.out.cells 4
  clear hb1 H B0 hB
  obtain ⟨g, l1, hgr, hl⟩ : ∃ (g : Value), (Instr.lookup 109 (.map (some mb)) (.string x) true).run Tryz.prog w1 = .ok (.tuple #[e.val g, .bool b]) w1 ∧ Strs w1 g e.groups ∧ e.groups.length ≤ 1000000 := by
    obtain ⟨rfl, rfl⟩ := HE.out
    rcases H1.out.look x (by unfold maxLen; omega) with ⟨hg, l1, _⟩ | ⟨GA, gc, e, hg, l1, _, ⟨hc, hl⟩, hgr⟩
    · rw [hg]; exact ⟨.slice none 0 0, l1, (Grp.nil w1 0).strs, by decide⟩
    · rw [hg]; exact ⟨_, l1, hgr.strs, hl⟩
  obtain ⟨GA, gc, rfl⟩ : ∃ A c, g = .slice A e.groups.length c := let ⟨⟨A, cap, h, _⟩, _⟩ := hgr; ⟨A, cap, h⟩
  have HT := Lib.hid (fun W (hW : Below w1.heap.size w1 W) => rtwin_any W e _ (hgr.below hW) hl)
  obtain ⟨contact, kept, name, groups, ⟨o, hn, i, m⟩⟩ := e
  simp only [Ent.val] at l1
  simp only at ⊢
  clear hgr hl hcs HE
  go_wp2_with fail
  refine (HT.out _ ((Below.refl _ _).alloc (Nat.le_refl _) _)).mono ?_
  rintro r w2 ⟨⟨A, c, rfl, hgr⟩, hb2⟩
  have hb2' : Below w1.heap.size w1 w2 := ((Below.refl _ _).alloc (Nat.le_refl _) _).trans (hb2.mono (by simp <;> omega))
  have B0 := blk_below HB.out.2 hb2' (blk_lt HB.out.2)
  have hB := HB.out.1.trans (hb2'.mono HB.out.1.size)
  have x0 : w2.cell? ⟨w.heap.size, 0, none⟩ = some (.string ⟨#[]⟩) := blk_cell B0 0
  have z0 : w2.frozen? ⟨w.heap.size, 0, none⟩ = false := blk_frozen B0 0
  have x1 : w2.cell? ⟨w.heap.size, 1, none⟩ = some (.bool false) := blk_cell B0 1
  have z1 : w2.frozen? ⟨w.heap.size, 1, none⟩ = false := blk_frozen B0 1
  have x2 : w2.cell? ⟨w.heap.size, 2, none⟩ = some (.string ⟨#[]⟩) := blk_cell B0 2
  have z2 : w2.frozen? ⟨w.heap.size, 2, none⟩ = false := blk_frozen B0 2
  have x3 : w2.cell? ⟨w.heap.size, 3, none⟩ = some (.slice none 0 0) := blk_cell B0 3
  have z3 : w2.frozen? ⟨w.heap.size, 3, none⟩ = false := blk_frozen B0 3
  have x4 : w2.cell? ⟨w.heap.size, 4, none⟩ = some (.int .i64 0) := blk_cell B0 4
  have z4 : w2.frozen? ⟨w.heap.size, 4, none⟩ = false := blk_frozen B0 4
  have x5 : w2.cell? ⟨w.heap.size, 5, none⟩ = some (.int .u64 0) := blk_cell B0 5
  have z5 : w2.frozen? ⟨w.heap.size, 5, none⟩ = false := blk_frozen B0 5
  have x6 : w2.cell? ⟨w.heap.size, 6, none⟩ = some (.int .i64 0) := blk_cell B0 6
  have z6 : w2.frozen? ⟨w.heap.size, 6, none⟩ = false := blk_frozen B0 6
  have x7 : w2.cell? ⟨w.heap.size, 7, none⟩ = some (.int .u64 0) := blk_cell B0 7
  have z7 : w2.frozen? ⟨w.heap.size, 7, none⟩ = false := blk_frozen B0 7
  have hgr2 : Grp w2 (w1.heap.size + 1) (.slice A groups.length c) groups := by
    simp only [World.size_alloc] at hgr
    exact hgr
  have hsz : w.heap.size < w1.heap.size := blk_lt HB.out.2
  have BB := blk_set8 B0 (.string contact) (.bool kept) (.string name) (.slice A groups.length c) (.int .i64 o) (.int .u64 hn) (.int .i64 i) (.int .u64 m)
  have BL := Lib.hid (below_set8 hB (b := w.heap.size) (Nat.le_refl _) (.string contact) (.bool kept) (.string name) (.slice A groups.length c) (.int .i64 o) (.int .u64 hn) (.int .i64 i) (.int .u64 m))
  have BU := upd_set8 (w0 := w2) (B := w2.heap.size) (ks := fun k => k < w.heap.size + 1) (b := w.heap.size) (w := w2) (Upd.refl _ _ _) (.inl (by omega)) (.string contact) (.bool kept) (.string name) (.slice A groups.length c) (.int .i64 o) (.int .u64 hn) (.int .i64 i) (.int .u64 m)
  have HG := Lib.hid (And.intro hgr2 (And.intro BU hsz))
  clear hB hgr hgr2 BU hsz hb2 hb2' HT B0 l1 c4
  go_wp2_with fail
  generalize ((((((((w2.setCell ⟨w.heap.size, 0, none⟩ (.string contact)).setCell ⟨w.heap.size, 1, none⟩ (.bool kept)).setCell ⟨w.heap.size, 2, none⟩ (.string name)).setCell ⟨w.heap.size, 3, none⟩ (.slice A groups.length c)).setCell ⟨w.heap.size, 4, none⟩ (.int .i64 o)).setCell ⟨w.heap.size, 5, none⟩ (.int .u64 hn)).setCell ⟨w.heap.size, 6, none⟩ (.int .i64 i)).setCell ⟨w.heap.size, 7, none⟩ (.int .u64 m)) = WW at *
  have k0 := blk_cell BB 0
  have k1 := blk_cell BB 1
  have k2 := blk_cell BB 2
  have k3 := blk_cell BB 3
  have k4 := blk_cell BB 4
  have k5 := blk_cell BB 5
  have k6 := blk_cell BB 6
  have k7 := blk_cell BB 7
  simp [bodyPost, results, Tryz.results55, go_sem, *]
  exact ⟨⟨A, c, ⟨rfl, rfl⟩, (HG.out.1.kept fun k cur hk hB => HG.out.2.1.block k (blk_lt hk) (by have := HG.out.2.2; omega)).lower (by have := HG.out.2.2; omega)⟩, BL.out⟩

end Go.Proofs.YthbjcihdlhkboaaGreatDoor
