/- The reference's Book; the same roster, as it is kept? -/
import Derived.Test.YthbjcihdlhkboaaGreatDoorQ27
import Derived.Test.YthbjcihdlhkboaaGreatDoorQ29
import Derived.Test.YthbjcihdlhkboaaGreatDoorQ30
namespace Go.Proofs.YthbjcihdlhkboaaGreatDoor
set_option linter.unusedSimpArgs false
set_option linter.unusedVariables false
open Go.RowKit Go.Maps Go.Shelf Go.Lib

/-- One of the entries, the cells as they lie. -/
theorem Ents.get8 {w : World} {B c : Nat} {A : Option Addr} {l : List Ent} (h : Ents w B (.slice A l.length c) l) {i : Nat} {e : Ent} (hi : l[i]? = some e) :
    ∃ b off g, A = some ⟨b, off, none⟩ ∧ b < w.heap.size ∧ Strs w g e.groups ∧ ∀ j, j < 8 → w.cell? ⟨b, off + i * 8 + j, none⟩ = (e.cells g)[j]? := by
  obtain ⟨b, off, g, h1, h2, h3, h4⟩ := (h.av (X := fun _ => False) (fun _ h => h.elim)).get hi
  exact ⟨b, off, g, h1, h2, h3.1.strs, h4⟩

set_option maxRecDepth 100000 in
set_option maxHeartbeats 8000000 in
/-- Two books of the same are the same. -/
theorem samebook_any (w : World) (items asks ver next : Int) (v1 v2 : Value) (l : List Ent) {B1 B2 : Nat} (h1 : Ents w B1 v1 l) (h2 : Ents w B2 v2 l) :
    Calls Tryz.prog 42 #[.agg #[.int .i64 items, .int .i64 asks, .int .u64 ver, .int .u64 next, v1], .agg #[.int .i64 items, .int .i64 asks, .int .u64 ver, .int .u64 next, v2]] w fun r w' => r = .returned (.bool true) ∧ Below w.heap.size w w' := by
  have hnl : l.length ≤ maxLen := by obtain ⟨es, _, hs, _⟩ := h1; exact hs.len_le
  unfold maxLen at hnl
  obtain ⟨A1, ca, rfl⟩ := h1.shape
  obtain ⟨A2, cb, rfl⟩ := h2.shape
  have hA : Below w.heap.size w ((w.alloc (.cells #[.int .i64 items, .int .i64 asks, .int .u64 ver, .int .u64 next, .slice A1 l.length ca] 68)).alloc (.cells #[.int .i64 items, .int .i64 asks, .int .u64 ver, .int .u64 next, .slice A2 l.length cb] 68)) := ((Below.refl _ _).alloc (Nat.le_refl _) _).alloc (by simp) _
  have HE := Lib.hid (And.intro (h1.below hA) (h2.below hA))
  have HA := Lib.hid hA
  have HB1 := Lib.hid (blk_alloc (blk_new w (.cells #[.int .i64 items, .int .i64 asks, .int .u64 ver, .int .u64 next, .slice A1 l.length ca] 68)) (.cells #[.int .i64 items, .int .i64 asks, .int .u64 ver, .int .u64 next, .slice A2 l.length cb] 68))
  have HB2 := Lib.hid (blk_new' (w := w.alloc (.cells #[.int .i64 items, .int .i64 asks, .int .u64 ver, .int .u64 next, .slice A1 l.length ca] 68)) (b := w.heap.size + 1) (.cells #[.int .i64 items, .int .i64 asks, .int .u64 ver, .int .u64 next, .slice A2 l.length cb] 68) (by simp))
  clear h1 h2 hA
  go_enter Tryz.func42, Tryz.ntmps42
  go_wp2_with fail
  generalize hW0 : World.alloc _ _ = w0 at *
  go_loopg [5] l.length (fun g s5 wx => ∃ j : Nat, j ≤ l.length ∧ g = l.length - j ∧ s5 = .int .i64 j ∧ Below w0.heap.size w0 wx)
  case atStart => exact ⟨0, Nat.zero_le _, rfl, rfl, Below.refl _ _⟩
  case round =>
    obtain ⟨j, hj, hgj, rfl, hbx⟩ := hrel
    have t0 : (0 : Int) ≤ (j : Int) := by omega
    have bx1 := blk_below HB1.out hbx (blk_lt HB1.out)
    have bx2 := blk_below HB2.out hbx (blk_lt HB2.out)
    have d1 : wr.cell? ⟨w.heap.size, 4, none⟩ = some (.slice A1 l.length ca) := blk_cell bx1 4
    have d2 : wr.cell? ⟨w.heap.size + 1, 4, none⟩ = some (.slice A2 l.length cb) := blk_cell bx2 4
    have zb1 := blk_lt bx1
    have zb2 := blk_lt bx2
    have HX := Lib.hid hbx
    have HJ := Lib.hid (And.intro hj hgj)
    clear bx1 bx2 hgj
    by_cases hlt : j < l.length
    · have t1 : (j : Int) < (l.length : Int) := by omega
      have hw : IntKind.i64.wrap ((j : Int) + 1) = (j : Int) + 1 := IntWalk.i64_in _ (by omega)
      obtain ⟨e1, he⟩ : ∃ e, l[j]? = some e := ⟨_, List.getElem?_eq_getElem hlt⟩
      obtain ⟨bp, op, g1, rfl, zp, hg1, hcp⟩ := (HE.out.1.below hbx).get8 he
      obtain ⟨bq, oq, g2, rfl, zq, hg2, hcq⟩ := (HE.out.2.below hbx).get8 he
      have p0 : wr.cell? ⟨bp, op + j * 8, none⟩ = some (.string e1.contact) := hcp 0 (by decide)
      have p1 : wr.cell? ⟨bp, op + j * 8 + 1, none⟩ = some (.bool e1.kept) := hcp 1 (by decide)
      have p2 : wr.cell? ⟨bp, op + j * 8 + 2, none⟩ = some (.string e1.name) := hcp 2 (by decide)
      have p3 : wr.cell? ⟨bp, op + j * 8 + 3, none⟩ = some (g1) := hcp 3 (by decide)
      have p4 : wr.cell? ⟨bp, op + j * 8 + 4, none⟩ = some (.int .i64 e1.half.o) := hcp 4 (by decide)
      have p5 : wr.cell? ⟨bp, op + j * 8 + 5, none⟩ = some (.int .u64 e1.half.n) := hcp 5 (by decide)
      have p6 : wr.cell? ⟨bp, op + j * 8 + 6, none⟩ = some (.int .i64 e1.half.i) := hcp 6 (by decide)
      have p7 : wr.cell? ⟨bp, op + j * 8 + 7, none⟩ = some (.int .u64 e1.half.m) := hcp 7 (by decide)
      have q0 : wr.cell? ⟨bq, oq + j * 8, none⟩ = some (.string e1.contact) := hcq 0 (by decide)
      have q1 : wr.cell? ⟨bq, oq + j * 8 + 1, none⟩ = some (.bool e1.kept) := hcq 1 (by decide)
      have q2 : wr.cell? ⟨bq, oq + j * 8 + 2, none⟩ = some (.string e1.name) := hcq 2 (by decide)
      have q3 : wr.cell? ⟨bq, oq + j * 8 + 3, none⟩ = some (g2) := hcq 3 (by decide)
      have q4 : wr.cell? ⟨bq, oq + j * 8 + 4, none⟩ = some (.int .i64 e1.half.o) := hcq 4 (by decide)
      have q5 : wr.cell? ⟨bq, oq + j * 8 + 5, none⟩ = some (.int .u64 e1.half.n) := hcq 5 (by decide)
      have q6 : wr.cell? ⟨bq, oq + j * 8 + 6, none⟩ = some (.int .i64 e1.half.i) := hcq 6 (by decide)
      have q7 : wr.cell? ⟨bq, oq + j * 8 + 7, none⟩ = some (.int .u64 e1.half.m) := hcq 7 (by decide)
      have HCS := Lib.hid (fun (W : World) (hW : Below wr.heap.size wr W) => sameEnt_any e1 e1 g1 g2 W (hg1.below hW) (hg2.below hW))
      clear hbx hcp hcq hg1 hg2 he hlt hj
      go_upto_region 6 with fail
      refine Reg.wp_region_puts (A := [[], [0], [], [1, 0, 2], [3, 1, 0, 2], [], [5], [], [6, 5, 7], [8, 6, 5, 7], [4, 3, 1, 0, 2, 9, 8, 6, 5, 7], [10, 4, 3, 1, 0, 2, 9, 8, 6, 5, 7]]) (effs := [10]) (N := 60)
        (val := fun i r => match i with | 0 => .pointer (some ⟨w.heap.size, 4, none⟩) | 1 => .slice (some ⟨bp, op, none⟩) l.length ca | 2 => .int .i64 j | 3 => .pointer (some ⟨bp, op + j * 8, none⟩) | 4 => .agg #[.string e1.contact, .bool e1.kept, .string e1.name, g1, .int .i64 e1.half.o, .int .u64 e1.half.n, .int .i64 e1.half.i, .int .u64 e1.half.m] | 5 => .pointer (some ⟨(w.heap.size + 1), 4, none⟩) | 6 => .slice (some ⟨bq, oq, none⟩) l.length cb | 7 => .int .i64 j | 8 => .pointer (some ⟨bq, oq + j * 8, none⟩) | 9 => .agg #[.string e1.contact, .bool e1.kept, .string e1.name, g2, .int .i64 e1.half.o, .int .u64 e1.half.n, .int .i64 e1.half.i, .int .u64 e1.half.m] | 11 => .bool false | _ => undef)
        (Stage := fun rs wx => Reg.Reads wr (fun i => match i with | 10 => Reg.Tells.eq (.bool true) | _ => Reg.Tells.any) rs wx)
        (fun rs => [(some 48, .pointer (some ⟨w.heap.size, 4, none⟩)), (some 49, .slice (some ⟨bp, op, none⟩) l.length ca), (some 50, .int .i64 j), (some 51, .pointer (some ⟨bp, op + j * 8, none⟩)), (some 52, .agg #[.string e1.contact, .bool e1.kept, .string e1.name, g1, .int .i64 e1.half.o, .int .u64 e1.half.n, .int .i64 e1.half.i, .int .u64 e1.half.m]), (some 53, .pointer (some ⟨(w.heap.size + 1), 4, none⟩)), (some 54, .slice (some ⟨bq, oq, none⟩) l.length cb), (some 55, .int .i64 j), (some 56, .pointer (some ⟨bq, oq + j * 8, none⟩)), (some 57, .agg #[.string e1.contact, .bool e1.kept, .string e1.name, g2, .int .i64 e1.half.o, .int .u64 e1.half.n, .int .i64 e1.half.i, .int .u64 e1.half.m]), (some 58, (rs 10).getD undef), (some 59, .bool false)])
        (by kernel_rfl) (by kernel_rfl) rfl (fun _ => rfl) ?h0 ?hob ?hend
      case hob =>
        intro i hi
        match i, hi with
        | 0, _ => exact Reg.Ob.pure rfl rfl rfl (fun rs => .pointer (some ⟨w.heap.size, 4, none⟩)) (fun _ => rfl) (fun rs wx a hs hd hl hk => by
            have e2 : (a.tmps[2]?).getD undef = .pointer (some ⟨w.heap.size, 0, none⟩) := hk 2 (by decide)
            go_simp)
        | 1, _ => exact Reg.Ob.pure rfl rfl rfl (fun rs => .slice (some ⟨bp, op, none⟩) l.length ca) (fun _ => rfl) (fun rs wx a hs hd hl hk => by
            have e48 : (a.tmps[48]?).getD undef = .pointer (some ⟨w.heap.size, 4, none⟩) := hk 48 (by decide)
            have c : wx.cell? ⟨w.heap.size, 4, none⟩ = some (.slice (some ⟨bp, op, none⟩) l.length ca) := (hs.below.cell (p := ⟨w.heap.size, 4, none⟩) zb1).trans d1
            go_simp)
        | 2, _ => exact Reg.Ob.pure rfl rfl rfl (fun rs => .int .i64 j) (fun _ => rfl) (fun rs wx a hs hd hl hk => by
            have e5 : (a.tmps[5]?).getD undef = .int .i64 j := hk 5 (by decide)
            go_simp)
        | 3, _ => exact Reg.Ob.pure rfl rfl rfl (fun rs => .pointer (some ⟨bp, op + j * 8, none⟩)) (fun _ => rfl) (fun rs wx a hs hd hl hk => by
            have e49 : (a.tmps[49]?).getD undef = .slice (some ⟨bp, op, none⟩) l.length ca := hk 49 (by decide)
            have e50 : (a.tmps[50]?).getD undef = .int .i64 j := hk 50 (by decide)
            go_simp)
        | 4, _ => exact Reg.Ob.pure rfl rfl rfl (fun rs => .agg #[.string e1.contact, .bool e1.kept, .string e1.name, g1, .int .i64 e1.half.o, .int .u64 e1.half.n, .int .i64 e1.half.i, .int .u64 e1.half.m]) (fun _ => rfl) (fun rs wx a hs hd hl hk => by
            have e51 : (a.tmps[51]?).getD undef = .pointer (some ⟨bp, op + j * 8, none⟩) := hk 51 (by decide)
            have p0 : wx.cell? ⟨bp, op + j * 8, none⟩ = some (.string e1.contact) := (hs.below.cell zp).trans p0
            have p1 : wx.cell? ⟨bp, op + j * 8 + 1, none⟩ = some (.bool e1.kept) := (hs.below.cell zp).trans p1
            have p2 : wx.cell? ⟨bp, op + j * 8 + 2, none⟩ = some (.string e1.name) := (hs.below.cell zp).trans p2
            have p3 : wx.cell? ⟨bp, op + j * 8 + 3, none⟩ = some (g1) := (hs.below.cell zp).trans p3
            have p4 : wx.cell? ⟨bp, op + j * 8 + 4, none⟩ = some (.int .i64 e1.half.o) := (hs.below.cell zp).trans p4
            have p5 : wx.cell? ⟨bp, op + j * 8 + 5, none⟩ = some (.int .u64 e1.half.n) := (hs.below.cell zp).trans p5
            have p6 : wx.cell? ⟨bp, op + j * 8 + 6, none⟩ = some (.int .i64 e1.half.i) := (hs.below.cell zp).trans p6
            have p7 : wx.cell? ⟨bp, op + j * 8 + 7, none⟩ = some (.int .u64 e1.half.m) := (hs.below.cell zp).trans p7
            go_simp)
        | 5, _ => exact Reg.Ob.pure rfl rfl rfl (fun rs => .pointer (some ⟨(w.heap.size + 1), 4, none⟩)) (fun _ => rfl) (fun rs wx a hs hd hl hk => by
            have e3 : (a.tmps[3]?).getD undef = .pointer (some ⟨(w.heap.size + 1), 0, none⟩) := hk 3 (by decide)
            go_simp)
        | 6, _ => exact Reg.Ob.pure rfl rfl rfl (fun rs => .slice (some ⟨bq, oq, none⟩) l.length cb) (fun _ => rfl) (fun rs wx a hs hd hl hk => by
            have e53 : (a.tmps[53]?).getD undef = .pointer (some ⟨(w.heap.size + 1), 4, none⟩) := hk 53 (by decide)
            have c : wx.cell? ⟨w.heap.size + 1, 4, none⟩ = some (.slice (some ⟨bq, oq, none⟩) l.length cb) := (hs.below.cell (p := ⟨w.heap.size + 1, 4, none⟩) zb2).trans d2
            go_simp)
        | 7, _ => exact Reg.Ob.pure rfl rfl rfl (fun rs => .int .i64 j) (fun _ => rfl) (fun rs wx a hs hd hl hk => by
            have e5 : (a.tmps[5]?).getD undef = .int .i64 j := hk 5 (by decide)
            go_simp)
        | 8, _ => exact Reg.Ob.pure rfl rfl rfl (fun rs => .pointer (some ⟨bq, oq + j * 8, none⟩)) (fun _ => rfl) (fun rs wx a hs hd hl hk => by
            have e54 : (a.tmps[54]?).getD undef = .slice (some ⟨bq, oq, none⟩) l.length cb := hk 54 (by decide)
            have e55 : (a.tmps[55]?).getD undef = .int .i64 j := hk 55 (by decide)
            go_simp)
        | 9, _ => exact Reg.Ob.pure rfl rfl rfl (fun rs => .agg #[.string e1.contact, .bool e1.kept, .string e1.name, g2, .int .i64 e1.half.o, .int .u64 e1.half.n, .int .i64 e1.half.i, .int .u64 e1.half.m]) (fun _ => rfl) (fun rs wx a hs hd hl hk => by
            have e56 : (a.tmps[56]?).getD undef = .pointer (some ⟨bq, oq + j * 8, none⟩) := hk 56 (by decide)
            have q0 : wx.cell? ⟨bq, oq + j * 8, none⟩ = some (.string e1.contact) := (hs.below.cell zq).trans q0
            have q1 : wx.cell? ⟨bq, oq + j * 8 + 1, none⟩ = some (.bool e1.kept) := (hs.below.cell zq).trans q1
            have q2 : wx.cell? ⟨bq, oq + j * 8 + 2, none⟩ = some (.string e1.name) := (hs.below.cell zq).trans q2
            have q3 : wx.cell? ⟨bq, oq + j * 8 + 3, none⟩ = some (g2) := (hs.below.cell zq).trans q3
            have q4 : wx.cell? ⟨bq, oq + j * 8 + 4, none⟩ = some (.int .i64 e1.half.o) := (hs.below.cell zq).trans q4
            have q5 : wx.cell? ⟨bq, oq + j * 8 + 5, none⟩ = some (.int .u64 e1.half.n) := (hs.below.cell zq).trans q5
            have q6 : wx.cell? ⟨bq, oq + j * 8 + 6, none⟩ = some (.int .i64 e1.half.i) := (hs.below.cell zq).trans q6
            have q7 : wx.cell? ⟨bq, oq + j * 8 + 7, none⟩ = some (.int .u64 e1.half.m) := (hs.below.cell zq).trans q7
            go_simp)
        | 10, _ =>
          refine Reg.Ob.eff rfl rfl rfl ?_
          intro rs wx a hs hd hn hl hk K hK
          have e52 : (a.tmps[52]?).getD undef = .agg #[.string e1.contact, .bool e1.kept, .string e1.name, g1, .int .i64 e1.half.o, .int .u64 e1.half.n, .int .i64 e1.half.i, .int .u64 e1.half.m] := hk 52 (by decide)
          have e57 : (a.tmps[57]?).getD undef = .agg #[.string e1.contact, .bool e1.kept, .string e1.name, g2, .int .i64 e1.half.o, .int .u64 e1.half.n, .int .i64 e1.half.i, .int .u64 e1.half.m] := hk 57 (by decide)
          have HS := Lib.hid hs
          have HKK := Lib.hid hK
          clear hs hn hd hl hk hK
          go_simp
          refine (HCS.out _ HS.out.below).mono ?_
          rintro e w8 ⟨rfl, hb⟩
          refine HKK.out _ _ (HS.out.step hb ?_)
          show _ = _
          rw [sameE_eq]
          simp
        | 11, _ => exact Reg.Ob.pure rfl rfl rfl (fun rs => .bool false) (fun _ => rfl) (fun rs wx a hs hd hl hk => by
            have e58 : (a.tmps[58]?).getD undef = ((rs 10).getD undef) := hk 58 (by decide)
            obtain ⟨u, hu⟩ := hd 10 (by decide) (by decide)
            obtain rfl : u = .bool true := hs.res 10 u hu
            rw [hu] at e58
            simp only [Option.getD_some] at e58
            clear hs hd hl hk hu
            go_simp)
        | n + 12, h => exact absurd h (by simp <;> omega)
      case h0 =>
        exact Reg.Reads.start _ _
      case hend =>
        intro rs wx hs hd
        obtain ⟨u, hu⟩ := hd 10 (by decide) (by decide)
        have HB := Lib.hid hs.below
        simp only [List.foldl_cons, List.foldl_nil, Act.put, List.setIfInBounds_toArray, List.set_cons_zero, List.set_cons_succ]
        clear hs hd hu
        go_wp2_with fail
        go_roundg (l.length - (j + 1))
        case measure => have := HJ.out.2; omega
        case rel => exact ⟨j + 1, by omega, rfl, by go_num, HX.out.trans (HB.out.mono HX.out.size)⟩
    · have t1 : ¬ (j : Int) < (l.length : Int) := by omega
      go_wp2_with fail
      go_ret
      exact ⟨rfl, HA.out.trans (HX.out.mono HA.out.size)⟩

structure BkSt (w wx : World) (b sc : Nat) (items asks ver next : Int) (SA : Option Addr) (acc : List Ent) (e : Ent) (rs : Nat → Option Value) : Prop where
  below : Below w.heap.size w wx
  res : wx.heap[w.heap.size]? = some (.cells #[.int .i64 0, .int .i64 0, .int .u64 0, .int .u64 0, .slice none 0 0] 68)
  box : ∃ v, wx.heap[b]? = some (.cells #[.int .i64 items, .int .i64 asks, .int .u64 ver, .int .u64 next, v] 68) ∧ (rs 14 = none → v = .slice SA acc.length sc) ∧ (rs 14 ≠ none → rs 12 = some v)
  old : rs 12 = none → Ents wx w.heap.size (.slice SA acc.length sc) acc
  tw : ∀ u, rs 10 = some u → ∃ A c, u = e.val (.slice A e.groups.length c) ∧ Grp wx w.heap.size (.slice A e.groups.length c) e.groups
  one : ∀ u, rs 11 = some u → rs 12 = none → ∃ g A c, u = .slice (some ⟨g, 0, none⟩) 1 1 ∧ rs 10 = some (e.val (.slice A e.groups.length c)) ∧ wx.heap[g]? = some (.cells #[.string e.contact, .bool e.kept, .string e.name, .slice A e.groups.length c, .int .i64 e.half.o, .int .u64 e.half.n, .int .i64 e.half.i, .int .u64 e.half.m] 54)
  app : ∀ u, rs 12 = some u → ∃ A c, u = .slice A (acc.length + 1) c ∧ Ents wx w.heap.size u (acc ++ [e])

set_option maxRecDepth 100000 in
set_option maxHeartbeats 16000000 in
theorem q16book_any {w : World} {B qb : Nat} {X : Nat → Prop} {R : RS} (h : QAt w B X qb R) (hn : R.rows.length ≤ 1000000) (hfew : FewG R) :
    Calls Tryz.prog 83 #[.pointer (some ⟨qb, 0, none⟩)] w fun r w' => ∃ A c, r = .returned (.agg #[.int .i64 R.items, .int .i64 R.asks, .int .u64 R.ver, .int .u64 R.next, .slice A R.rows.length c]) ∧ Ents w' w.heap.size (.slice A R.rows.length c) R.rows ∧ Below w.heap.size w w' := by
  obtain ⟨A0, c0, hq, hE⟩ := h.open
  have c4 : w.cell? ⟨qb, 4, none⟩ = some (.slice A0 R.rows.length c0) := blk_cell hq 4
  have d0 : w.cell? ⟨qb, 0, none⟩ = some (.int .i64 R.items) := blk_cell hq 0
  have d1 : w.cell? ⟨qb, 1, none⟩ = some (.int .i64 R.asks) := blk_cell hq 1
  have d2 : w.cell? ⟨qb, 2, none⟩ = some (.int .u64 R.ver) := blk_cell hq 2
  have d3 : w.cell? ⟨qb, 3, none⟩ = some (.int .u64 R.next) := blk_cell hq 3
  have hqb := h.lt
  have hfew2 : ∀ e ∈ R.rows, e.groups.length ≤ 1000000 := hfew
  obtain ⟨l, hl⟩ : ∃ l, R.rows = l := ⟨_, rfl⟩
  rw [hl] at hE hn c4 hfew2 ⊢
  have HE := Lib.hid hE
  have HN := Lib.hid hn
  have HC4 := Lib.hid c4
  have HFEW := Lib.hid hfew2
  have hne1 : ¬ qb = w.heap.size := by omega
  have hne2 : ¬ qb = w.heap.size + 1 := by omega
  clear h hq hE hn hl hfew hfew2
  go_enter Tryz.func83, Tryz.ntmps83
  go_upto_region 3 with fail
  have hb0 : Below w.heap.size w ((w.alloc (.cells #[.int .i64 0, .int .i64 0, .int .u64 0, .int .u64 0, .slice none 0 0] 68)).alloc (.cells #[.int .i64 R.items, .int .i64 R.asks, .int .u64 R.ver, .int .u64 R.next, .slice none 0 0] 68)) := ((Below.refl _ _).alloc (Nat.le_refl _) _).alloc (by simp) _
  have hr0 := blk_alloc (blk_new w (.cells #[.int .i64 0, .int .i64 0, .int .u64 0, .int .u64 0, .slice none 0 0] 68)) (.cells #[.int .i64 R.items, .int .i64 R.asks, .int .u64 R.ver, .int .u64 R.next, .slice none 0 0] 68)
  have hx0 := blk_new' (w := w.alloc (.cells #[.int .i64 0, .int .i64 0, .int .u64 0, .int .u64 0, .slice none 0 0] 68)) (b := w.heap.size + 1) (.cells #[.int .i64 R.items, .int .i64 R.asks, .int .u64 R.ver, .int .u64 R.next, .slice none 0 0] 68) (by simp)
  obtain ⟨b, hb⟩ : ∃ b, w.heap.size + 1 = b := ⟨_, rfl⟩
  have hnbb : w.heap.size < b := by omega
  rw [hb] at hx0 ⊢
  have H0 := Lib.hid (And.intro hb0 (And.intro hr0 hx0))
  clear hb0 hr0 hx0 c4 d0 d1 d2 d3 hb hne1 hne2
  go_wp2_with fail
  go_loopg [4] l.length (fun g s4 wx => ∃ (k sc : Nat) (SA : Option Addr), k ≤ l.length ∧ g = l.length - k ∧ s4 = .int .i64 k ∧ Below w.heap.size w wx ∧ wx.heap[w.heap.size]? = some (.cells #[.int .i64 0, .int .i64 0, .int .u64 0, .int .u64 0, .slice none 0 0] 68) ∧ wx.heap[b]? = some (.cells #[.int .i64 R.items, .int .i64 R.asks, .int .u64 R.ver, .int .u64 R.next, .slice SA (l.take k).length sc] 68) ∧ Ents wx w.heap.size (.slice SA (l.take k).length sc) (l.take k))
  case atStart => exact ⟨0, 0, none, Nat.zero_le _, rfl, rfl, H0.out.1, H0.out.2.1, H0.out.2.2, Ents.nil _ _⟩
  case round =>
    obtain ⟨k, sc, SA, hk, hgk, rfl, hbx, hrx, hxx, hents⟩ := hrel
    have t0 : (0 : Int) ≤ (k : Int) := by omega
    have c4 : wr.cell? ⟨qb, 4, none⟩ = some (.slice A0 l.length c0) := (hbx.cell hqb).trans HC4.out
    have hnl := HN.out
    have HX := Lib.hid (And.intro hbx (And.intro hrx (And.intro hxx hents)))
    have HJ := Lib.hid (And.intro hk hgk)
    clear hgk
    by_cases hlt : k < l.length
    · have t1 : (k : Int) < (l.length : Int) := by omega
      have hw : IntKind.i64.wrap ((k : Int) + 1) = (k : Int) + 1 := IntWalk.i64_in _ (by omega)
      obtain ⟨e1, he⟩ : ∃ e, l[k]? = some e := ⟨_, List.getElem?_eq_getElem hlt⟩
      obtain ⟨bp, op, g1, rfl, zp, hgx, hcp⟩ := HE.out.get he
      have hgl := HFEW.out e1 (List.mem_of_getElem? he)
      have htk : l.take (k + 1) = l.take k ++ [e1] := by
        obtain ⟨_, rfl⟩ := List.getElem?_eq_some_iff.1 he
        exact List.take_succ_eq_append_getElem hlt
      have hal : (l.take k).length = k := by rw [List.length_take]; omega
      have p0 : w.cell? ⟨bp, op + k * 8, none⟩ = some (.string e1.contact) := hcp 0 (by decide)
      have p1 : w.cell? ⟨bp, op + k * 8 + 1, none⟩ = some (.bool e1.kept) := hcp 1 (by decide)
      have p2 : w.cell? ⟨bp, op + k * 8 + 2, none⟩ = some (.string e1.name) := hcp 2 (by decide)
      have p3 : w.cell? ⟨bp, op + k * 8 + 3, none⟩ = some (g1) := hcp 3 (by decide)
      have p4 : w.cell? ⟨bp, op + k * 8 + 4, none⟩ = some (.int .i64 e1.half.o) := hcp 4 (by decide)
      have p5 : w.cell? ⟨bp, op + k * 8 + 5, none⟩ = some (.int .u64 e1.half.n) := hcp 5 (by decide)
      have p6 : w.cell? ⟨bp, op + k * 8 + 6, none⟩ = some (.int .i64 e1.half.i) := hcp 6 (by decide)
      have p7 : w.cell? ⟨bp, op + k * 8 + 7, none⟩ = some (.int .u64 e1.half.m) := hcp 7 (by decide)
      have HTW := Lib.hid (fun (W : World) (hW : Below w.heap.size w W) => q16twin_any W e1 g1 (hgx.1.strs.below hW) hgl)
      obtain ⟨acc, hacc⟩ : ∃ acc, l.take k = acc := ⟨_, rfl⟩
      rw [hacc] at HX hal htk
      have HTK := Lib.hid htk
      have HK := Lib.hid (And.intro (show acc.length ≤ 1000000 by omega) hal)
      obtain ⟨i0, hi, hz0, hz1, hz2⟩ := info_parts entInfo
      have HIN := Lib.hid (And.intro hi (And.intro hz0 (And.intro hz1 hz2)))
      clear hbx hrx hxx hents hcp hgx hgl he hlt hk htk hal hacc hi hz0 hz1 hz2
      go_upto_region 6 with fail
      clear c4
      refine Reg.wp_region_puts (A := [[], [0], [], [2], [3, 2], [4, 3, 2], [5, 4, 3, 2], [], [6, 5, 4, 3, 2, 7], [8, 6, 5, 4, 3, 2, 7], [9, 8, 6, 5, 4, 3, 2, 7], [10, 9, 8, 6, 5, 4, 3, 2, 7], [1, 0, 11, 10, 9, 8, 6, 5, 4, 3, 2, 7], [0, 1, 2, 3, 4, 5, 6, 7, 8, 9, 10, 11, 12], [13, 0, 1, 2, 3, 4, 5, 6, 7, 8, 9, 10, 11, 12]]) (effs := [10, 11, 12, 14]) (N := 35)
        (val := fun i r => match i with | 0 => .pointer (some ⟨b, 4, none⟩) | 1 => .slice SA acc.length sc | 2 => .pointer (some ⟨qb, 0, none⟩) | 3 => .pointer (some ⟨qb, 0, none⟩) | 4 => .pointer (some ⟨qb, 0, none⟩) | 5 => .pointer (some ⟨qb, 4, none⟩) | 6 => .slice (some ⟨bp, op, none⟩) l.length c0 | 7 => .int .i64 k | 8 => .pointer (some ⟨bp, op + k * 8, none⟩) | 9 => .agg #[.string e1.contact, .bool e1.kept, .string e1.name, g1, .int .i64 e1.half.o, .int .u64 e1.half.n, .int .i64 e1.half.i, .int .u64 e1.half.m] | 13 => .pointer (some ⟨b, 4, none⟩) | _ => undef)
        (Stage := fun rs wx => BkSt w wx b sc R.items R.asks R.ver R.next SA acc e1 rs)
        (fun rs => [(some 20, .pointer (some ⟨b, 4, none⟩)), (some 21, .slice SA acc.length sc), (some 22, .pointer (some ⟨qb, 0, none⟩)), (some 23, .pointer (some ⟨qb, 0, none⟩)), (some 24, .pointer (some ⟨qb, 0, none⟩)), (some 25, .pointer (some ⟨qb, 4, none⟩)), (some 26, .slice (some ⟨bp, op, none⟩) l.length c0), (some 27, .int .i64 k), (some 28, .pointer (some ⟨bp, op + k * 8, none⟩)), (some 29, .agg #[.string e1.contact, .bool e1.kept, .string e1.name, g1, .int .i64 e1.half.o, .int .u64 e1.half.n, .int .i64 e1.half.i, .int .u64 e1.half.m]), (some 30, (rs 10).getD undef), (some 31, (rs 11).getD undef), (some 32, (rs 12).getD undef), (some 33, .pointer (some ⟨b, 4, none⟩)), (none, (rs 14).getD undef)])
        (by kernel_rfl) (by kernel_rfl) rfl (fun _ => rfl) ?h0 ?hob ?hend
      case hob =>
        intro i hi
        match i, hi with
        | 0, _ => exact Reg.Ob.pure rfl rfl rfl (fun rs => .pointer (some ⟨b, 4, none⟩)) (fun _ => rfl) (fun rs wx a hs hd hl hk => by
            have e3 : (a.tmps[3]?).getD undef = .pointer (some ⟨b, 0, none⟩) := hk 3 (by decide)
            go_simp)
        | 1, _ => exact Reg.Ob.pure rfl rfl rfl (fun rs => .slice SA acc.length sc) (fun _ => rfl) (fun rs wx a hs hd hl hk => by
            have e20 : (a.tmps[20]?).getD undef = .pointer (some ⟨b, 4, none⟩) := hk 20 (by decide)
            obtain ⟨v8, hb8, e8, _⟩ := hs.box
            obtain rfl := e8 (hl 14 (by decide))
            have c4 : wx.cell? ⟨b, 4, none⟩ = some (.slice SA acc.length sc) := blk_cell hb8 4
            clear hb8 e8 hs hd hl hk
            go_simp)
        | 2, _ => exact Reg.Ob.pure rfl rfl rfl (fun rs => .pointer (some ⟨qb, 0, none⟩)) (fun _ => rfl) (fun rs wx a hs hd hl hk => by
            have e0 : (a.tmps[0]?).getD undef = .pointer (some ⟨qb, 0, none⟩) := hk 0 (by decide)
            go_simp)
        | 3, _ => exact Reg.Ob.pure rfl rfl rfl (fun rs => .pointer (some ⟨qb, 0, none⟩)) (fun _ => rfl) (fun rs wx a hs hd hl hk => by
            have e22 : (a.tmps[22]?).getD undef = .pointer (some ⟨qb, 0, none⟩) := hk 22 (by decide)
            go_simp)
        | 4, _ => exact Reg.Ob.pure rfl rfl rfl (fun rs => .pointer (some ⟨qb, 0, none⟩)) (fun _ => rfl) (fun rs wx a hs hd hl hk => by
            have e23 : (a.tmps[23]?).getD undef = .pointer (some ⟨qb, 0, none⟩) := hk 23 (by decide)
            go_simp)
        | 5, _ => exact Reg.Ob.pure rfl rfl rfl (fun rs => .pointer (some ⟨qb, 4, none⟩)) (fun _ => rfl) (fun rs wx a hs hd hl hk => by
            have e24 : (a.tmps[24]?).getD undef = .pointer (some ⟨qb, 0, none⟩) := hk 24 (by decide)
            go_simp)
        | 6, _ => exact Reg.Ob.pure rfl rfl rfl (fun rs => .slice (some ⟨bp, op, none⟩) l.length c0) (fun _ => rfl) (fun rs wx a hs hd hl hk => by
            have e25 : (a.tmps[25]?).getD undef = .pointer (some ⟨qb, 4, none⟩) := hk 25 (by decide)
            have c : wx.cell? ⟨qb, 4, none⟩ = some (.slice (some ⟨bp, op, none⟩) l.length c0) := (hs.below.cell (p := ⟨qb, 4, none⟩) hqb).trans HC4.out
            go_simp)
        | 7, _ => exact Reg.Ob.pure rfl rfl rfl (fun rs => .int .i64 k) (fun _ => rfl) (fun rs wx a hs hd hl hk => by
            have e4 : (a.tmps[4]?).getD undef = .int .i64 k := hk 4 (by decide)
            go_simp)
        | 8, _ => exact Reg.Ob.pure rfl rfl rfl (fun rs => .pointer (some ⟨bp, op + k * 8, none⟩)) (fun _ => rfl) (fun rs wx a hs hd hl hk => by
            have e26 : (a.tmps[26]?).getD undef = .slice (some ⟨bp, op, none⟩) l.length c0 := hk 26 (by decide)
            have e27 : (a.tmps[27]?).getD undef = .int .i64 k := hk 27 (by decide)
            go_simp)
        | 9, _ => exact Reg.Ob.pure rfl rfl rfl (fun rs => .agg #[.string e1.contact, .bool e1.kept, .string e1.name, g1, .int .i64 e1.half.o, .int .u64 e1.half.n, .int .i64 e1.half.i, .int .u64 e1.half.m]) (fun _ => rfl) (fun rs wx a hs hd hl hk => by
            have e28 : (a.tmps[28]?).getD undef = .pointer (some ⟨bp, op + k * 8, none⟩) := hk 28 (by decide)
            have p0 : wx.cell? ⟨bp, op + k * 8, none⟩ = some (.string e1.contact) := (hs.below.cell zp).trans p0
            have p1 : wx.cell? ⟨bp, op + k * 8 + 1, none⟩ = some (.bool e1.kept) := (hs.below.cell zp).trans p1
            have p2 : wx.cell? ⟨bp, op + k * 8 + 2, none⟩ = some (.string e1.name) := (hs.below.cell zp).trans p2
            have p3 : wx.cell? ⟨bp, op + k * 8 + 3, none⟩ = some (g1) := (hs.below.cell zp).trans p3
            have p4 : wx.cell? ⟨bp, op + k * 8 + 4, none⟩ = some (.int .i64 e1.half.o) := (hs.below.cell zp).trans p4
            have p5 : wx.cell? ⟨bp, op + k * 8 + 5, none⟩ = some (.int .u64 e1.half.n) := (hs.below.cell zp).trans p5
            have p6 : wx.cell? ⟨bp, op + k * 8 + 6, none⟩ = some (.int .i64 e1.half.i) := (hs.below.cell zp).trans p6
            have p7 : wx.cell? ⟨bp, op + k * 8 + 7, none⟩ = some (.int .u64 e1.half.m) := (hs.below.cell zp).trans p7
            go_simp)
        | 10, _ =>
          refine Reg.Ob.eff rfl rfl rfl ?_
          intro rs wx a hs hd hn hl hk K hK
          have e29 : (a.tmps[29]?).getD undef = .agg #[.string e1.contact, .bool e1.kept, .string e1.name, g1, .int .i64 e1.half.o, .int .u64 e1.half.n, .int .i64 e1.half.i, .int .u64 e1.half.m] := hk 29 (by decide)
          have C := Lib.hid (HTW.out wx hs.below)
          have HS := Lib.hid hs
          have HL := Lib.hid hl
          have HKK := Lib.hid hK
          clear hs hn hd hl hk hK
          go_simp
          refine C.out.mono ?_
          rintro r w5 ⟨⟨A5, c5, rfl, hg5⟩, hb5⟩
          refine HKK.out _ _ ⟨HS.out.below.trans (hb5.mono HS.out.below.size), blk_below HS.out.res hb5 (blk_lt HS.out.res), ?_, fun h => (HS.out.old (by simpa [Reg.upd] using h)).below hb5, fun u hu => ?_, fun u hu => ?_, fun u hu => ?_⟩
          · obtain ⟨v, e1, e2, e3⟩ := HS.out.box
            exact ⟨v, blk_below e1 hb5 (blk_lt e1), fun h => e2 (by simpa [Reg.upd] using h), fun h => by simpa [Reg.upd] using e3 (by simpa [Reg.upd] using h)⟩
          · have h2 : some _ = some u := hu
            cases h2
            exact ⟨A5, c5, rfl, hg5.lower HS.out.below.size⟩
          · intro _
            have : rs 11 = some u := by simpa [Reg.upd] using hu
            rw [HL.out 11 (by decide)] at this
            cases this
          · have : rs 12 = some u := by simpa [Reg.upd] using hu
            rw [HL.out 12 (by decide)] at this
            cases this
        | 11, _ =>
          refine Reg.Ob.eff rfl rfl rfl ?_
          intro rs wx a hs hd hn hl hk K hK
          have e30 : (a.tmps[30]?).getD undef = ((rs 10).getD undef) := hk 30 (by decide)
          obtain ⟨u4, hu4⟩ := hd 10 (by decide) (by decide)
          obtain ⟨A5, c5, rfl, _⟩ := hs.tw u4 hu4
          rw [hu4] at e30
          simp only [Option.getD_some, Ent.val] at e30
          have HU := Lib.hid hu4
          clear hu4
          have HS := Lib.hid hs
          have HL := Lib.hid hl
          have HKK := Lib.hid hK
          clear hs hn hd hl hk hK
          go_simp
          have hbA : Below wx.heap.size wx (wx.alloc (.cells #[.string e1.contact, .bool e1.kept, .string e1.name, .slice A5 e1.groups.length c5, .int .i64 e1.half.o, .int .u64 e1.half.n, .int .i64 e1.half.i, .int .u64 e1.half.m] 54)) := (Below.refl _ _).alloc (Nat.le_refl _) _
          refine HKK.out _ _ ⟨HS.out.below.alloc HS.out.below.size _, blk_alloc HS.out.res _, ?_, fun h => (HS.out.old (by simpa [Reg.upd] using h)).below hbA, fun u hu => ?_, fun u hu => ?_, fun u hu => ?_⟩
          · obtain ⟨v, e1, e2, e3⟩ := HS.out.box
            exact ⟨v, blk_alloc e1 _, fun h => e2 (by simpa [Reg.upd] using h), fun h => by simpa [Reg.upd] using e3 (by simpa [Reg.upd] using h)⟩
          · obtain ⟨A, c, e1, e2⟩ := HS.out.tw u (by simpa [Reg.upd] using hu)
            exact ⟨A, c, e1, e2.below hbA⟩
          · intro _
            have h2 : some (Value.slice (some ⟨wx.heap.size, 0, none⟩) 1 1) = some u := hu
            cases h2
            exact ⟨_, A5, c5, rfl, by simpa [Reg.upd] using HU.out, blk_new _ _⟩
          · have : rs 12 = some u := by simpa [Reg.upd] using hu
            rw [HL.out 12 (by decide)] at this
            cases this
        | 12, _ =>
          refine Reg.Ob.eff rfl rfl rfl ?_
          intro rs wx a hs hd hn hl hk K hK
          have e21 : (a.tmps[21]?).getD undef = .slice SA acc.length sc := hk 21 (by decide)
          have e31 : (a.tmps[31]?).getD undef = ((rs 11).getD undef) := hk 31 (by decide)
          obtain ⟨u5, hu5⟩ := hd 11 (by decide) (by decide)
          obtain ⟨g, A5, c5, rfl, hu4, hcg⟩ := hs.one u5 hu5 hn
          obtain ⟨A6, c6, e6, ht5⟩ := hs.tw _ hu4
          obtain ⟨rfl, rfl⟩ : A5 = A6 ∧ c5 = c6 := by simpa [Ent.val] using e6
          rw [hu5] at e31
          simp only [Option.getD_some] at e31
          have ht := hs.old hn
          obtain ⟨v8, hb8, _⟩ := hs.box
          have HU := Lib.hid (And.intro hu4 (And.intro hu5 (And.intro hcg (And.intro ht5 (And.intro ht hb8)))))
          clear hu4 hu5 hcg ht5 ht hb8 e6
          have HS := Lib.hid hs
          have HL := Lib.hid hl
          have HKK := Lib.hid hK
          clear hs hn hd hl hK
          obtain ⟨hu4, hu5, hcg, ht5, ht, hb8⟩ := HU.out
          obtain ⟨es, q1, q2, q3⟩ := ht
          refine wp_append_seq wx _ _ 49 rfl w.heap.size 54 i0 (.agg #[.string ⟨#[]⟩, .bool false, .string ⟨#[]⟩, .slice none 0 0, .int .i64 0, .int .u64 0, .int .i64 0, .int .u64 0]) 8 96 Tryz.underlying49 HIN.out.1 HIN.out.2.1 HIN.out.2.2.1 HIN.out.2.2.2 rfl (.slice SA acc.length sc) acc.length (flatE es) (by simpa [Act.eval] using e21) q2 ⟨g, 0, none⟩ 1 1 (e1.cells (.slice A5 e1.groups.length c5)) (by simpa [Act.eval] using e31) rfl (by intro j u hu; rw [Addr.add_lit, Nat.zero_add, blk_cell hcg]; simpa using hu) (by intro u hu; simp at hu; rcases hu with rfl | rfl | rfl | rfl | rfl | rfl | rfl | rfl <;> rfl) (by decide) (by have := HK.out.1; unfold maxLen; omega) (by have := HK.out.1; omega) HS.out.below.size ?_
          intro v7 w7 hs7 hg7 _
          obtain ⟨A7, c7, rfl⟩ := hs7.shape
          have hne : ∀ {j : Nat} {cs : Array Value} {T : TypeId}, wx.heap[j]? = some (.cells cs T) → T ≠ 54 → some j ≠ (Value.slice SA acc.length sc).ownBlock := fun {j cs T} hj hT e => by
            obtain ⟨cur, hc⟩ := q2.block j e.symm
            rw [hj] at hc
            simp at hc
            exact hT hc.2
          refine HKK.out _ _ ⟨HS.out.below.grown hg7 HS.out.below.size (fun j hj => (q2.lt j hj).1), blk_grown HS.out.res hg7 (hne HS.out.res (by decide)), ?_, fun h => ?_, fun u hu => ?_, fun u hu => ?_, fun u hu => ?_⟩
          · obtain ⟨v, e1, e2, e3⟩ := HS.out.box
            exact ⟨v, blk_grown e1 hg7 (hne e1 (by decide)), fun h => e2 (by simpa [Reg.upd] using h), fun h => absurd (HL.out 14 (by decide)) (by simpa [Reg.upd] using h)⟩
          · simp [Reg.upd] at h
          · have : rs 10 = some u := by simpa [Reg.upd] using hu
            rw [hu4] at this
            cases this
            exact ⟨A5, c5, rfl, ht5.kept fun k cur hc _ => hg7.block k (blk_lt hc) (hne hc (by decide))⟩
          · intro h
            simp [Reg.upd] at h
          · have h2 : some (Value.slice A7 (acc.length + 1) c7) = some u := hu
            cases h2
            exact ⟨A7, c7, rfl, Ents.pushed q1 q2 q3 ht5 hs7 hg7⟩
        | 13, _ => exact Reg.Ob.pure rfl rfl rfl (fun rs => .pointer (some ⟨b, 4, none⟩)) (fun _ => rfl) (fun rs wx a hs hd hl hk => by
            have e3 : (a.tmps[3]?).getD undef = .pointer (some ⟨b, 0, none⟩) := hk 3 (by decide)
            go_simp)
        | 14, _ =>
          refine Reg.Ob.eff rfl rfl rfl ?_
          intro rs wx a hs hd hn hl hk K hK
          have e33 : (a.tmps[33]?).getD undef = .pointer (some ⟨b, 4, none⟩) := hk 33 (by decide)
          have e32 : (a.tmps[32]?).getD undef = ((rs 12).getD undef) := hk 32 (by decide)
          obtain ⟨u6, hu6⟩ := hd 12 (by decide) (by decide)
          obtain ⟨A7, c7, rfl, ht7⟩ := hs.app u6 hu6
          rw [hu6] at e32
          simp only [Option.getD_some] at e32
          obtain ⟨v8, hb8, _⟩ := hs.box
          have c4 : wx.cell? ⟨b, 4, none⟩ = some v8 := blk_cell hb8 4
          have z4 : wx.frozen? ⟨b, 4, none⟩ = false := blk_frozen hb8 4
          have HU := Lib.hid (And.intro hu6 (And.intro ht7 hb8))
          clear hu6 ht7 hb8
          have HS := Lib.hid hs
          have HL := Lib.hid hl
          have HKK := Lib.hid hK
          clear hs hn hd hl hk hK
          go_simp
          obtain ⟨hu6, ht7, hb8⟩ := HU.out
          refine HKK.out undef _ ⟨HS.out.below.setCell (Nat.le_of_lt hnbb) _, blk_set_other HS.out.res _ (by show w.heap.size ≠ b; omega), ⟨_, blk_set_same hb8 4 _, fun h => by simp [Reg.upd] at h, fun _ => by simpa [Reg.upd] using hu6⟩, fun h => ?_, fun u hu => ?_, fun u hu h => ?_, fun u hu => ?_⟩
          · have : rs 12 = none := by simpa [Reg.upd] using h
            rw [hu6] at this
            cases this
          · obtain ⟨A, c, e1, e2⟩ := HS.out.tw u (by simpa [Reg.upd] using hu)
            exact ⟨A, c, e1, e2.kept fun k cur hc _ => Below.heap_setCell wx ⟨b, 4, none⟩ _ k (fun e => by
              subst e
              rw [hb8] at hc
              simp at hc)⟩
          · have : rs 12 = none := by simpa [Reg.upd] using h
            rw [hu6] at this
            cases this
          · obtain ⟨A, c, e1, e2⟩ := HS.out.app u (by simpa [Reg.upd] using hu)
            exact ⟨A, c, e1, e2.set hb8 (by decide) (by decide) 4 _⟩
        | n + 15, h => exact absurd h (by simp <;> omega)
      case h0 =>
        obtain ⟨hbx, hrx, hxx, hents⟩ := HX.out
        exact ⟨hbx.drew, hrx, ⟨_, hxx, fun _ => rfl, fun h => absurd rfl h⟩, fun _ => hents.below ((Below.refl _ _).drew), fun u hu => (by cases hu), fun u hu => (by cases hu), fun u hu => (by cases hu)⟩
      case hend =>
        intro rs wx hs hd
        obtain ⟨u12, hu12⟩ := hd 12 (by decide) (by decide)
        obtain ⟨u14, hu14⟩ := hd 14 (by decide) (by decide)
        obtain ⟨v, hbv, _, hv2⟩ := hs.box
        have hv := hv2 (by rw [hu14]; simp)
        obtain ⟨A7, c7, rfl, hE7⟩ := hs.app v hv
        have HS := Lib.hid (And.intro hs.below (And.intro hs.res (And.intro hbv hE7)))
        simp only [List.foldl_cons, List.foldl_nil, Act.put, List.setIfInBounds_toArray, List.set_cons_zero, List.set_cons_succ]
        clear hs hd hu12 hu14 hbv hv hv2 hE7
        go_wp2_with fail
        go_roundg (l.length - (k + 1))
        case measure => have := HJ.out.2; omega
        case rel =>
          refine ⟨k + 1, c7, A7, by omega, rfl, by go_num, HS.out.1, HS.out.2.1, ?_, ?_⟩
          · rw [HTK.out, List.length_append]; exact HS.out.2.2.1
          · rw [HTK.out, List.length_append]; exact HS.out.2.2.2
    · obtain rfl : k = l.length := by omega
      have t1 : ¬ ((l.length : Nat) : Int) < (l.length : Int) := by omega
      rw [List.take_length] at HX
      obtain ⟨y0, y1, y2, y3, y4, _⟩ := cells5 HX.out.2.2.1
      obtain ⟨z0, z1, z2, z3, z4, f0, f1, f2, f3, f4⟩ := cells5 HX.out.2.1
      have BB := blk_set5 HX.out.2.1 (.int .i64 R.items) (.int .i64 R.asks) (.int .u64 R.ver) (.int .u64 R.next) (.slice SA l.length sc)
      have BE := HX.out.2.2.2.set5 HX.out.2.1 (.int .i64 R.items) (.int .i64 R.asks) (.int .u64 R.ver) (.int .u64 R.next) (.slice SA l.length sc)
      have BL := ((((HX.out.1.setCell (show w.heap.size ≤ (⟨w.heap.size, 0, none⟩ : Addr).block from Nat.le_refl _) (.int .i64 R.items)).setCell (show w.heap.size ≤ (⟨w.heap.size, 1, none⟩ : Addr).block from Nat.le_refl _) (.int .i64 R.asks)).setCell (show w.heap.size ≤ (⟨w.heap.size, 2, none⟩ : Addr).block from Nat.le_refl _) (.int .u64 R.ver)).setCell (show w.heap.size ≤ (⟨w.heap.size, 3, none⟩ : Addr).block from Nat.le_refl _) (.int .u64 R.next)).setCell (show w.heap.size ≤ (⟨w.heap.size, 4, none⟩ : Addr).block from Nat.le_refl _) (.slice SA l.length sc)
      have HFIN := Lib.hid (And.intro BE BL)
      clear hbx hrx hxx hents BE BL
      go_wp2_with fail
      generalize (((((wr.setCell ⟨w.heap.size, 0, none⟩ (.int .i64 R.items)).setCell ⟨w.heap.size, 1, none⟩ (.int .i64 R.asks)).setCell ⟨w.heap.size, 2, none⟩ (.int .u64 R.ver)).setCell ⟨w.heap.size, 3, none⟩ (.int .u64 R.next)).setCell ⟨w.heap.size, 4, none⟩ (.slice SA l.length sc)) = WW at *
      obtain ⟨k0, k1, k2, k3, k4, _⟩ := cells5 BB
      simp [bodyPost, results, Tryz.results83, go_sem, k0, k1, k2, k3, k4]
      exact ⟨SA, sc, ⟨rfl, rfl⟩, HFIN.out⟩

end Go.Proofs.YthbjcihdlhkboaaGreatDoor
