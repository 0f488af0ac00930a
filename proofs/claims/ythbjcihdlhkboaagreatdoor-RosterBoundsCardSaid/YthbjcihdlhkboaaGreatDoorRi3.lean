/- Items, Book. -/
import Derived.Test.YthbjcihdlhkboaaGreatDoorRi2
import Derived.Deep.RegionHeld3
import Derived.Test.YthbjcihdlhkboaaGreatDoorReg
namespace Go.Proofs.YthbjcihdlhkboaaGreatDoor
set_option linter.unusedSimpArgs false
set_option linter.unusedVariables false
open Go.RowKit Go.Maps Go.Shelf Go.Lib

set_option maxHeartbeats 1000000 in
theorem items1_any (w : World) : Asks w 57 #[] (·.kept) := by
  intro W hW e g hg
  obtain ⟨contact, kept, name, groups, ⟨o, hn, i, m⟩⟩ := e
  obtain ⟨A, c, rfl⟩ : ∃ A c, g = .slice A groups.length c := let ⟨⟨A, cap, h, _⟩, _⟩ := hg; ⟨A, cap, h⟩
  clear hg
  show Calls Tryz.prog 57 #[_] W _
  go_enter Tryz.func57, Tryz.ntmps57
  go_wp2_with fail
  go_ret
  exact ⟨rfl, (Below.refl _ _).alloc (Nat.le_refl _) _⟩

set_option maxHeartbeats 1000000 in
theorem book1_any (w : World) : Asks w 73 #[] (fun _ => true) := by
  intro W hW e g hg
  obtain ⟨contact, kept, name, groups, ⟨o, hn, i, m⟩⟩ := e
  obtain ⟨A, c, rfl⟩ : ∃ A c, g = .slice A groups.length c := let ⟨⟨A, cap, h, _⟩, _⟩ := hg; ⟨A, cap, h⟩
  clear hg
  show Calls Tryz.prog 73 #[_] W _
  go_enter Tryz.func73, Tryz.ntmps73
  go_wp2_with fail
  go_ret
  exact ⟨rfl, (Below.refl _ _).alloc (Nat.le_refl _) _⟩

set_option maxHeartbeats 1000000 in
theorem items_any {w : World} {B rb mb n : Nat} {D : DataW Value} {R : RS} {kc : Int} (h : RoAtK w B rb mb n D R kc) (hl : R.list.length ≤ 1000000) (hks : ∀ s, (R.get s).isSome = true → s.size ≤ maxLen) :
    Calls Tryz.prog 20 #[.pointer (some ⟨rb, 0, none⟩)] w fun r w' => ∃ A c, r = .returned (.slice A R.kepts.length c) ∧ Ents w' w.heap.size (.slice A R.kepts.length c) R.kepts ∧ Below w.heap.size w w' := by
  have C := Lib.hid (all_any h hl hks 57 #[] (·.kept) (enters_of Tryz.func57 (by kernel_rfl) rfl) (items1_any w))
  clear h hl hks
  go_enter Tryz.func20, Tryz.ntmps20
  go_wp2_with fail
  refine C.out.mono ?_
  rintro e w1 ⟨A, c, rfl, he, hb⟩
  have HE := Lib.hid (And.intro he hb)
  clear he hb
  go_wp2_with fail
  go_ret
  exact ⟨_, _, rfl, HE.out.1, HE.out.2⟩

theorem cells5 {w : World} {b : Nat} {x0 x1 x2 x3 x4 : Value} {T : TypeId} (h : w.heap[b]? = some (.cells #[x0, x1, x2, x3, x4] T)) : w.cell? ⟨b, 0, none⟩ = some x0 ∧ w.cell? ⟨b, 1, none⟩ = some x1 ∧ w.cell? ⟨b, 2, none⟩ = some x2 ∧ w.cell? ⟨b, 3, none⟩ = some x3 ∧ w.cell? ⟨b, 4, none⟩ = some x4 ∧ w.frozen? ⟨b, 0, none⟩ = false ∧ w.frozen? ⟨b, 1, none⟩ = false ∧ w.frozen? ⟨b, 2, none⟩ = false ∧ w.frozen? ⟨b, 3, none⟩ = false ∧ w.frozen? ⟨b, 4, none⟩ = false :=
  ⟨blk_cell h 0, blk_cell h 1, blk_cell h 2, blk_cell h 3, blk_cell h 4, blk_frozen h 0, blk_frozen h 1, blk_frozen h 2, blk_frozen h 3, blk_frozen h 4⟩

theorem Ents.lower {w : World} {B B' : Nat} {v : Value} {l : List Ent} (h : Ents w B v l) (hB : B' ≤ B) : Ents w B' v l := by
  obtain ⟨es, h1, h2, h3⟩ := h
  exact ⟨es, h1, Seq.lower h2 hB, fun p hp => (h3 p hp).lower hB⟩
/-- Entries stand where a block of another kind is written. -/
theorem Ents.set {w : World} {B b : Nat} {v : Value} {l : List Ent} {cs : Array Value} {T : TypeId} (h : Ents w B v l) (hb : w.heap[b]? = some (.cells cs T)) (h1 : T ≠ 54) (h2 : T ≠ 9) (j : Nat) (u : Value) : Ents (w.setCell ⟨b, j, none⟩ u) B v l := by
  obtain ⟨es, e1, e2, e3⟩ := h
  refine ⟨es, e1, e2.setCell u (fun e => ?_), fun p hp => (e3 p hp).kept fun k cur hc _ => Below.heap_setCell w ⟨b, j, none⟩ u k (fun e => ?_)⟩
  · obtain ⟨cur, hc⟩ := e2.block b e
    rw [hb] at hc
    simp at hc
    exact h1 hc.2
  · subst e
    rw [hb] at hc
    simp at hc
    exact h2 hc.2
theorem Ents.set5 {w : World} {B b : Nat} {v : Value} {l : List Ent} {x0 x1 x2 x3 x4 : Value} (h : Ents w B v l) (hb : w.heap[b]? = some (.cells #[x0, x1, x2, x3, x4] 68)) (y0 y1 y2 y3 y4 : Value) :
    Ents (((((w.setCell ⟨b, 0, none⟩ y0).setCell ⟨b, 1, none⟩ y1).setCell ⟨b, 2, none⟩ y2).setCell ⟨b, 3, none⟩ y3).setCell ⟨b, 4, none⟩ y4) B v l :=
  ((((h.set hb (by decide) (by decide) 0 y0).set (blk_set_same hb 0 y0) (by decide) (by decide) 1 y1).set (blk_set_same (blk_set_same hb 0 y0) 1 y1) (by decide) (by decide) 2 y2).set (blk_set_same (blk_set_same (blk_set_same hb 0 y0) 1 y1) 2 y2) (by decide) (by decide) 3 y3).set (blk_set_same (blk_set_same (blk_set_same (blk_set_same hb 0 y0) 1 y1) 2 y2) 3 y3) (by decide) (by decide) 4 y4

structure BookStage (w wx : World) (al : List Ent) (R : RS) (rs : Nat → Option Value) : Prop where
  below : Below w.heap.size w wx
  box : rs 19 = none → wx.heap[w.heap.size]? = some (.cells #[.int .i64 0, .int .i64 0, .int .u64 0, .int .u64 0, .slice none 0 0] 68)
  res : ∀ v, rs 17 = some v → ∃ A c, v = .slice A al.length c ∧ Ents wx w.heap.size v al ∧ (rs 19 ≠ none → wx.heap[w.heap.size]? = some (.cells #[.int .i64 R.items, .int .i64 R.asks, .int .u64 R.ver, .int .u64 R.next, v] 68))

set_option maxRecDepth 100000 in
set_option maxHeartbeats 4000000 in
theorem book_any {w : World} {B rb mb n : Nat} {D : DataW Value} {R : RS} {kc : Int} (h : RoAtK w B rb mb n D R kc) (hl : R.list.length ≤ 1000000) (hks : ∀ s, (R.get s).isSome = true → s.size ≤ maxLen) :
    Calls Tryz.prog 28 #[.pointer (some ⟨rb, 0, none⟩)] w fun r w' => ∃ A c, r = .returned (.agg #[.int .i64 R.items, .int .i64 R.asks, .int .u64 R.ver, .int .u64 R.next, .slice A (R.all fun _ => true).length c]) ∧ Ents w' w.heap.size (.slice A (R.all fun _ => true).length c) (R.all fun _ => true) ∧ Below w.heap.size w w' := by
  obtain ⟨al, hal⟩ : ∃ al, (R.all fun _ => true) = al := ⟨_, rfl⟩
  have C := fun (W : World) (hW : Below w.heap.size w W) => all_any (h.below hW) hl hks 73 #[] (fun _ => true) (enters_of Tryz.func73 (by kernel_rfl) rfl) (book1_any W)
  rw [hal] at C ⊢
  have HC := Lib.hid C
  have r0 : w.cell? ⟨rb, 0, none⟩ = some (.int .i64 R.items) := blk_cell h.cells 0
  have r1 : w.cell? ⟨rb, 1, none⟩ = some (.int .i64 R.asks) := blk_cell h.cells 1
  have r2 : w.cell? ⟨rb, 2, none⟩ = some (.int .u64 R.ver) := blk_cell h.cells 2
  have r3 : w.cell? ⟨rb, 3, none⟩ = some (.int .u64 R.next) := blk_cell h.cells 3
  have hlt := h.lt.1
  have hne : ¬ rb = w.heap.size := by omega
  clear C h hl hks hal
  go_enter Tryz.func28, Tryz.ntmps28
  go_wp2_with fail
  refine Reg.wp_region_puts (A := [[], [0], [1, 0], [2, 1, 0], [], [4], [5, 4], [6, 5, 4], [], [8], [9, 8], [10, 9, 8], [], [12], [13, 12], [14, 13, 12], [], [16], [3, 2, 1, 0, 7, 6, 5, 4, 11, 10, 9, 8, 15, 14, 13, 12, 17, 16], [18, 3, 2, 1, 0, 7, 6, 5, 4, 11, 10, 9, 8, 15, 14, 13, 12, 17, 16]]) (effs := [17, 19]) (N := 22)
    (val := fun i r => match i with | 0 => .pointer (some ⟨rb, 0, none⟩) | 1 => .pointer (some ⟨rb, 0, none⟩) | 2 => .pointer (some ⟨rb, 0, none⟩) | 3 => .int .i64 R.items | 4 => .pointer (some ⟨rb, 0, none⟩) | 5 => .pointer (some ⟨rb, 0, none⟩) | 6 => .pointer (some ⟨rb, 1, none⟩) | 7 => .int .i64 R.asks | 8 => .pointer (some ⟨rb, 0, none⟩) | 9 => .pointer (some ⟨rb, 0, none⟩) | 10 => .pointer (some ⟨rb, 2, none⟩) | 11 => .int .u64 R.ver | 12 => .pointer (some ⟨rb, 0, none⟩) | 13 => .pointer (some ⟨rb, 0, none⟩) | 14 => .pointer (some ⟨rb, 3, none⟩) | 15 => .int .u64 R.next | 16 => .pointer (some ⟨rb, 0, none⟩) | 18 => .agg #[.int .i64 R.items, .int .i64 R.asks, .int .u64 R.ver, .int .u64 R.next, (r 17)] | _ => undef)
    (Stage := fun rs wx => BookStage w wx al R rs)
    (fun rs => [(some 3, .pointer (some ⟨rb, 0, none⟩)), (some 4, .pointer (some ⟨rb, 0, none⟩)), (some 5, .pointer (some ⟨rb, 0, none⟩)), (some 6, .int .i64 R.items), (some 7, .pointer (some ⟨rb, 0, none⟩)), (some 8, .pointer (some ⟨rb, 0, none⟩)), (some 9, .pointer (some ⟨rb, 1, none⟩)), (some 10, .int .i64 R.asks), (some 11, .pointer (some ⟨rb, 0, none⟩)), (some 12, .pointer (some ⟨rb, 0, none⟩)), (some 13, .pointer (some ⟨rb, 2, none⟩)), (some 14, .int .u64 R.ver), (some 15, .pointer (some ⟨rb, 0, none⟩)), (some 16, .pointer (some ⟨rb, 0, none⟩)), (some 17, .pointer (some ⟨rb, 3, none⟩)), (some 18, .int .u64 R.next), (some 19, .pointer (some ⟨rb, 0, none⟩)), (some 20, (rs 17).getD undef), (some 21, .agg #[.int .i64 R.items, .int .i64 R.asks, .int .u64 R.ver, .int .u64 R.next, ((rs 17).getD undef)]), (none, (rs 19).getD undef)])
    (by kernel_rfl) (by kernel_rfl) rfl (fun _ => rfl) ?h0 ?hob ?hend
  case hob =>
    intro i hi
    match i, hi with
    | 0, _ => exact Reg.Ob.pure rfl rfl rfl (fun rs => .pointer (some ⟨rb, 0, none⟩)) (fun _ => rfl) (fun rs wx a hs hd hl hk => by
        have e0 : (a.tmps[0]?).getD undef = .pointer (some ⟨rb, 0, none⟩) := hk 0 (by decide)
        go_simp)
    | 1, _ => exact Reg.Ob.pure rfl rfl rfl (fun rs => .pointer (some ⟨rb, 0, none⟩)) (fun _ => rfl) (fun rs wx a hs hd hl hk => by
        have e3 : (a.tmps[3]?).getD undef = .pointer (some ⟨rb, 0, none⟩) := hk 3 (by decide)
        go_simp)
    | 2, _ => exact Reg.Ob.pure rfl rfl rfl (fun rs => .pointer (some ⟨rb, 0, none⟩)) (fun _ => rfl) (fun rs wx a hs hd hl hk => by
        have e4 : (a.tmps[4]?).getD undef = .pointer (some ⟨rb, 0, none⟩) := hk 4 (by decide)
        go_simp)
    | 3, _ => exact Reg.Ob.pure rfl rfl rfl (fun rs => .int .i64 R.items) (fun _ => rfl) (fun rs wx a hs hd hl hk => by
        have e5 : (a.tmps[5]?).getD undef = .pointer (some ⟨rb, 0, none⟩) := hk 5 (by decide)
        have c : wx.cell? ⟨rb, 0, none⟩ = some (.int .i64 R.items) := (hs.below.cell (p := ⟨rb, 0, none⟩) hlt).trans r0
        go_simp)
    | 4, _ => exact Reg.Ob.pure rfl rfl rfl (fun rs => .pointer (some ⟨rb, 0, none⟩)) (fun _ => rfl) (fun rs wx a hs hd hl hk => by
        have e0 : (a.tmps[0]?).getD undef = .pointer (some ⟨rb, 0, none⟩) := hk 0 (by decide)
        go_simp)
    | 5, _ => exact Reg.Ob.pure rfl rfl rfl (fun rs => .pointer (some ⟨rb, 0, none⟩)) (fun _ => rfl) (fun rs wx a hs hd hl hk => by
        have e7 : (a.tmps[7]?).getD undef = .pointer (some ⟨rb, 0, none⟩) := hk 7 (by decide)
        go_simp)
    | 6, _ => exact Reg.Ob.pure rfl rfl rfl (fun rs => .pointer (some ⟨rb, 1, none⟩)) (fun _ => rfl) (fun rs wx a hs hd hl hk => by
        have e8 : (a.tmps[8]?).getD undef = .pointer (some ⟨rb, 0, none⟩) := hk 8 (by decide)
        go_simp)
    | 7, _ => exact Reg.Ob.pure rfl rfl rfl (fun rs => .int .i64 R.asks) (fun _ => rfl) (fun rs wx a hs hd hl hk => by
        have e9 : (a.tmps[9]?).getD undef = .pointer (some ⟨rb, 1, none⟩) := hk 9 (by decide)
        have c : wx.cell? ⟨rb, 1, none⟩ = some (.int .i64 R.asks) := (hs.below.cell (p := ⟨rb, 1, none⟩) hlt).trans r1
        go_simp)
    | 8, _ => exact Reg.Ob.pure rfl rfl rfl (fun rs => .pointer (some ⟨rb, 0, none⟩)) (fun _ => rfl) (fun rs wx a hs hd hl hk => by
        have e0 : (a.tmps[0]?).getD undef = .pointer (some ⟨rb, 0, none⟩) := hk 0 (by decide)
        go_simp)
    | 9, _ => exact Reg.Ob.pure rfl rfl rfl (fun rs => .pointer (some ⟨rb, 0, none⟩)) (fun _ => rfl) (fun rs wx a hs hd hl hk => by
        have e11 : (a.tmps[11]?).getD undef = .pointer (some ⟨rb, 0, none⟩) := hk 11 (by decide)
        go_simp)
    | 10, _ => exact Reg.Ob.pure rfl rfl rfl (fun rs => .pointer (some ⟨rb, 2, none⟩)) (fun _ => rfl) (fun rs wx a hs hd hl hk => by
        have e12 : (a.tmps[12]?).getD undef = .pointer (some ⟨rb, 0, none⟩) := hk 12 (by decide)
        go_simp)
    | 11, _ => exact Reg.Ob.pure rfl rfl rfl (fun rs => .int .u64 R.ver) (fun _ => rfl) (fun rs wx a hs hd hl hk => by
        have e13 : (a.tmps[13]?).getD undef = .pointer (some ⟨rb, 2, none⟩) := hk 13 (by decide)
        have c : wx.cell? ⟨rb, 2, none⟩ = some (.int .u64 R.ver) := (hs.below.cell (p := ⟨rb, 2, none⟩) hlt).trans r2
        go_simp)
    | 12, _ => exact Reg.Ob.pure rfl rfl rfl (fun rs => .pointer (some ⟨rb, 0, none⟩)) (fun _ => rfl) (fun rs wx a hs hd hl hk => by
        have e0 : (a.tmps[0]?).getD undef = .pointer (some ⟨rb, 0, none⟩) := hk 0 (by decide)
        go_simp)
    | 13, _ => exact Reg.Ob.pure rfl rfl rfl (fun rs => .pointer (some ⟨rb, 0, none⟩)) (fun _ => rfl) (fun rs wx a hs hd hl hk => by
        have e15 : (a.tmps[15]?).getD undef = .pointer (some ⟨rb, 0, none⟩) := hk 15 (by decide)
        go_simp)
    | 14, _ => exact Reg.Ob.pure rfl rfl rfl (fun rs => .pointer (some ⟨rb, 3, none⟩)) (fun _ => rfl) (fun rs wx a hs hd hl hk => by
        have e16 : (a.tmps[16]?).getD undef = .pointer (some ⟨rb, 0, none⟩) := hk 16 (by decide)
        go_simp)
    | 15, _ => exact Reg.Ob.pure rfl rfl rfl (fun rs => .int .u64 R.next) (fun _ => rfl) (fun rs wx a hs hd hl hk => by
        have e17 : (a.tmps[17]?).getD undef = .pointer (some ⟨rb, 3, none⟩) := hk 17 (by decide)
        have c : wx.cell? ⟨rb, 3, none⟩ = some (.int .u64 R.next) := (hs.below.cell (p := ⟨rb, 3, none⟩) hlt).trans r3
        go_simp)
    | 16, _ => exact Reg.Ob.pure rfl rfl rfl (fun rs => .pointer (some ⟨rb, 0, none⟩)) (fun _ => rfl) (fun rs wx a hs hd hl hk => by
        have e0 : (a.tmps[0]?).getD undef = .pointer (some ⟨rb, 0, none⟩) := hk 0 (by decide)
        go_simp)
    | 17, _ =>
      refine Reg.Ob.eff rfl rfl rfl ?_
      intro rs wx a hs hd hn hl hk K hK
      have e19 : (a.tmps[19]?).getD undef = .pointer (some ⟨rb, 0, none⟩) := hk 19 (by decide)
      have C := Lib.hid (HC.out wx hs.below)
      have HS := Lib.hid hs
      have HN := Lib.hid (hl 19 (by decide))
      have HKK := Lib.hid hK
      clear hs hn hd hl hk hK
      go_simp
      refine C.out.mono ?_
      rintro e w1 ⟨A, c, rfl, he, hb⟩
      refine HKK.out _ _ ⟨HS.out.below.trans (hb.mono HS.out.below.size), fun _ => blk_below (HS.out.box HN.out) hb (blk_lt (HS.out.box HN.out)), fun v hv => ?_⟩
      have hv2 : some (Value.slice A al.length c) = some v := hv
      cases hv2
      exact ⟨A, c, rfl, he.lower HS.out.below.size, fun h => absurd HN.out h⟩
    | 18, _ => exact Reg.Ob.pure rfl rfl rfl (fun rs => .agg #[.int .i64 R.items, .int .i64 R.asks, .int .u64 R.ver, .int .u64 R.next, ((rs 17).getD undef)]) (fun _ => rfl) (fun rs wx a hs hd hl hk => by
        have e6 : (a.tmps[6]?).getD undef = .int .i64 R.items := hk 6 (by decide)
        have e10 : (a.tmps[10]?).getD undef = .int .i64 R.asks := hk 10 (by decide)
        have e14 : (a.tmps[14]?).getD undef = .int .u64 R.ver := hk 14 (by decide)
        have e18 : (a.tmps[18]?).getD undef = .int .u64 R.next := hk 18 (by decide)
        have e20 : (a.tmps[20]?).getD undef = ((rs 17).getD undef) := hk 20 (by decide)
        obtain ⟨v, hv⟩ := hd 17 (by decide) (by decide)
        obtain ⟨A, c, rfl, _⟩ := hs.res v hv
        rw [hv] at e20 ⊢
        simp only [Option.getD_some] at e20 ⊢
        clear hv hs hd hl hk
        go_simp)
    | 19, _ =>
      refine Reg.Ob.eff rfl rfl rfl ?_
      intro rs wx a hs hd hn hl hk K hK
      have e2 : (a.tmps[2]?).getD undef = .pointer (some ⟨w.heap.size, 0, none⟩) := hk 2 (by decide)
      have e21 : (a.tmps[21]?).getD undef = .agg #[.int .i64 R.items, .int .i64 R.asks, .int .u64 R.ver, .int .u64 R.next, ((rs 17).getD undef)] := hk 21 (by decide)
      obtain ⟨v, hv⟩ := hd 17 (by decide) (by decide)
      obtain ⟨A, c, rfl, hE, _⟩ := hs.res v hv
      rw [hv] at e21
      simp only [Option.getD_some] at e21
      have hbx := hs.box hn
      obtain ⟨x0, x1, x2, x3, x4, y0, y1, y2, y3, y4⟩ := cells5 hbx
      have HS := Lib.hid (And.intro hs.below (And.intro hE (And.intro hbx hv)))
      have HKK := Lib.hid hK
      clear hs hn hd hl hk hK hv hE hbx
      go_simp
      obtain ⟨hb, hE, hbx, hv⟩ := HS.out
      refine HKK.out undef _ ⟨?_, fun h => by simp [Reg.upd] at h, fun v' hv' => ?_⟩
      · exact ((((hb.setCell (Nat.le_refl _) _).setCell (Nat.le_refl _) _).setCell (Nat.le_refl _) _).setCell (Nat.le_refl _) _).setCell (Nat.le_refl _) _
      · have : some (Value.slice A al.length c) = some v' := hv.symm.trans hv'
        cases this
        exact ⟨A, c, rfl, hE.set5 hbx _ _ _ _ _, fun _ => blk_set5 hbx _ _ _ _ _⟩
    | n + 20, h => exact absurd h (by simp <;> omega)
  case h0 =>
    refine ⟨((Below.refl _ _).alloc (Nat.le_refl _) _).drew, fun _ => blk_drew (blk_new w _), fun v hv => by cases hv⟩
  case hend =>
    intro rs wx hs hd
    obtain ⟨v, hv⟩ := hd 17 (by decide) (by decide)
    obtain ⟨u, hu⟩ := hd 19 (by decide) (by decide)
    obtain ⟨A, c, rfl, hE, hbx⟩ := hs.res v hv
    have hbx := hbx (by rw [hu]; simp)
    have HS := Lib.hid (And.intro hs.below hE)
    obtain ⟨x0, x1, x2, x3, x4, _⟩ := cells5 hbx
    clear hs hd hE hbx hu
    simp only [List.foldl_cons, List.foldl_nil, Act.put, List.setIfInBounds_toArray, List.set_cons_zero, List.set_cons_succ]
    go_wp2_with fail
    simp [bodyPost, results, Tryz.results28, go_sem, x0, x1, x2, x3, x4]
    exact ⟨A, c, ⟨rfl, rfl⟩, HS.out.2, HS.out.1⟩

end Go.Proofs.YthbjcihdlhkboaaGreatDoor
