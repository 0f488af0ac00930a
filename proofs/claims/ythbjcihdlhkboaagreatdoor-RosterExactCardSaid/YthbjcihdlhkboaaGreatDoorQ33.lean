/- The same roster? The memory of RosterBounds' law. -/
import Derived.Test.YthbjcihdlhkboaaGreatDoorQ22
import Derived.Test.YthbjcihdlhkboaaGreatDoorQ32
namespace Go.Proofs.YthbjcihdlhkboaaGreatDoor
set_option linter.unusedSimpArgs false
set_option linter.unusedVariables false
open Go.RowKit Go.Maps Go.Shelf Go.Lib

def tellS (l : List ByteArray) : Reg.Tells := ⟨fun w u => ∃ A c, u = .slice A l.length c ∧ Strs w u l, fun hb ⟨A, c, h1, h2⟩ => ⟨A, c, h1, h2.below hb⟩⟩
def tellB (R : RS) : Reg.Tells := ⟨fun w u => ∃ A c, u = .agg #[.int .i64 R.items, .int .i64 R.asks, .int .u64 R.ver, .int .u64 R.next, .slice A R.rows.length c] ∧ Ents w 0 (.slice A R.rows.length c) R.rows, fun hb ⟨A, c, h1, h2⟩ => ⟨A, c, h1, h2.below hb⟩⟩
theorem RoAtK.few {w : World} {B rb mb n : Nat} {D : DataW Value} {R : RS} {kc : Int} (h : RoAtK w B rb mb n D R kc) (hn : RNm R) : FewG R := fun e he => by
  have hg := hn.mem.1 he
  rcases h.lists e.contact with ⟨_, h2⟩ | ⟨g, e', _, h2, h3, _⟩
  · rw [hg] at h2; cases h2
  · rw [hg] at h2; cases h2; exact h3.2
theorem RNm.withs_le {R : RS} (h : RNm R) (p : Half → Bool) : (R.withs p).length ≤ R.list.length := by
  unfold RS.withs
  rw [List.length_map, RS.all_length h.apart]
  exact List.length_filter_le _ _

/-- What each call of the last region answers. -/
def T16 (R : RS) : Nat → Reg.Tells
  | 1 => Reg.Tells.eq (.int .u64 R.ver)
  | 10 => tellS (R.withs fun h => h.i == 1)
  | 12 => tellS (R.withs fun h => h.i == 1)
  | 13 => Reg.Tells.eq (.bool true)
  | 17 => tellS (R.withs fun h => h.i == 2)
  | 19 => tellS (R.withs fun h => h.i == 2)
  | 20 => Reg.Tells.eq (.bool true)
  | 24 => tellS (R.withs fun h => h.o == 2)
  | 26 => tellS (R.withs fun h => h.o == 2)
  | 27 => Reg.Tells.eq (.bool true)
  | 31 => tellB R
  | 33 => tellB R
  | 34 => Reg.Tells.eq (.bool true)
  | _ => Reg.Tells.any

set_option maxRecDepth 100000 in
set_option maxHeartbeats 16000000 in
theorem sameall_any {w : World} {B B' rb mb n qb : Nat} {D : DataW Value} {X : Nat → Prop} {R : RS} {kc : Int} (hp : RoAtK w B rb mb n D R kc) (hq : QAt w B' X qb R) (hl : R.list.length ≤ 1000000) (hks : ∀ s, (R.get s).isSome = true → s.size ≤ maxLen) :
    Calls Tryz.prog 31 #[.pointer (some ⟨rb, 0, none⟩), .pointer (some ⟨qb, 0, none⟩)] w fun r w' => r = .returned (.bool true) ∧ Below w.heap.size w w' := by
  have hfew := hp.few hq.nm
  have hrl : R.rows.length ≤ 1000000 := by rw [hq.nm.len]; exact hl
  have HP0 := Lib.hid (And.intro hp (And.intro hq (And.intro hq.nm hks)))
  have HFEW := Lib.hid hfew
  have HLN := Lib.hid hl
  have C1 := Lib.hid (items_any hp hl hks)
  have hkl : R.kepts.length ≤ 1000000 := by rw [RS.all_length hp.apart]; exact Nat.le_trans (List.length_filter_le _ _) hl
  clear hp hq hl hks hfew
  go_enter Tryz.func31, Tryz.ntmps31
  go_wp2_with fail
  refine C1.out.mono ?_
  rintro r w1 ⟨A1, ca, rfl, hE1, hb1⟩
  have C2 := q16items_any (HP0.out.2.1.below hb1) hrl HFEW.out
  obtain ⟨l, hlk⟩ : ∃ l, R.kepts = l := ⟨_, rfl⟩
  rw [hlk] at C2 hE1 hkl ⊢
  have HC2 := Lib.hid C2
  have HE1 := Lib.hid (And.intro hE1 hb1)
  clear hE1 hb1 C2 C1 hlk
  go_wp2_with fail
  refine HC2.out.mono ?_
  rintro r w2 ⟨A2, cb, rfl, hE2, hb2⟩
  have HE := Lib.hid (And.intro (HE1.out.1.below hb2) (And.intro hE2 (HE1.out.2.trans (hb2.mono HE1.out.2.size))))
  clear hE2 hb2 HC2 HE1
  go_wp2_with fail
  go_loopg [7] l.length (fun g s7 wx => ∃ j : Nat, j ≤ l.length ∧ g = l.length - j ∧ s7 = .int .i64 j ∧ Below w2.heap.size w2 wx)
  case atStart => exact ⟨0, Nat.zero_le _, rfl, rfl, Below.refl _ _⟩
  case round =>
    obtain ⟨j, hj, hgj, rfl, hbx⟩ := hrel
    have t0 : (0 : Int) ≤ (j : Int) := by omega
    have HX := Lib.hid hbx
    have HJ := Lib.hid (And.intro hj hgj)
    clear hgj
    by_cases hlt : j < l.length
    · have t1 : (j : Int) < (l.length : Int) := by omega
      have hw : IntKind.i64.wrap ((j : Int) + 1) = (j : Int) + 1 := IntWalk.i64_in _ (by omega)
      obtain ⟨e1, he⟩ : ∃ e, l[j]? = some e := ⟨_, List.getElem?_eq_getElem hlt⟩
      obtain ⟨bp, op, g1, rfl, zp, hg1, hcp⟩ := (HE.out.1.below hbx).get8 he
      obtain ⟨bq, oq, g2, rfl, zq, hg2, hcq⟩ := (HE.out.2.1.below hbx).get8 he
      have p0 : wr.cell? ⟨bp, op + j * 8, none⟩ = some (.string e1.contact) := hcp 0 (by decide)
      have p1 : wr.cell? ⟨bp, op + j * 8 + 1, none⟩ = some (.bool e1.kept) := hcp 1 (by decide)
      have p2 : wr.cell? ⟨bp, op + j * 8 + 2, none⟩ = some (.string e1.name) := hcp 2 (by decide)
      have p3 : wr.cell? ⟨bp, op + j * 8 + 3, none⟩ = some (g1) := hcp 3 (by decide)
      have p4 : wr.cell? ⟨bp, op + j * 8 + 4, none⟩ = some (.int .i64 e1.half.o) := hcp 4 (by decide)
      have p5 : wr.cell? ⟨bp, op + j * 8 + 5, none⟩ = some (.int .u64 e1.half.n) := hcp 5 (by decide)
      have p6 : wr.cell? ⟨bp, op + j * 8 + 6, none⟩ = some (.int .i64 e1.half.i) := hcp 6 (by decide)
      have p7 : wr.cell? ⟨bp, op + j * 8 + 7, none⟩ = some (.int .u64 e1.half.m) := hcp 7 (by decide)
      have q0 : wr.cell? ⟨bq, oq + j * 8, none⟩ = some (.string e1.contact) := hcq 0 (by decide)
      have q1 : wr.cell? ⟨bq, oq + j * 8 + 1, none⟩ = some (.bool e1.kept) := hcq 1 (by decide)
      have q2 : wr.cell? ⟨bq, oq + j * 8 + 2, none⟩ = some (.string e1.name) := hcq 2 (by decide)
      have q3 : wr.cell? ⟨bq, oq + j * 8 + 3, none⟩ = some (g2) := hcq 3 (by decide)
      have q4 : wr.cell? ⟨bq, oq + j * 8 + 4, none⟩ = some (.int .i64 e1.half.o) := hcq 4 (by decide)
      have q5 : wr.cell? ⟨bq, oq + j * 8 + 5, none⟩ = some (.int .u64 e1.half.n) := hcq 5 (by decide)
      have q6 : wr.cell? ⟨bq, oq + j * 8 + 6, none⟩ = some (.int .i64 e1.half.i) := hcq 6 (by decide)
      have q7 : wr.cell? ⟨bq, oq + j * 8 + 7, none⟩ = some (.int .u64 e1.half.m) := hcq 7 (by decide)
      have HCS := Lib.hid (fun (W : World) (hW : Below wr.heap.size wr W) => sameEnt_any e1 e1 g1 g2 W (hg1.below hW) (hg2.below hW))
      clear hbx hcp hcq hg1 hg2 he hlt hj
      go_upto_region 7 with fail
      refine Reg.wp_region_puts (A := [[], [], [0, 1], [2, 0, 1], [], [], [4, 5], [6, 4, 5], [3, 2, 0, 1, 7, 6, 4, 5], [8, 3, 2, 0, 1, 7, 6, 4, 5]]) (effs := [8]) (N := 69)
        (val := fun i r => match i with | 0 => .slice (some ⟨bp, op, none⟩) l.length ca | 1 => .int .i64 j | 2 => .pointer (some ⟨bp, op + j * 8, none⟩) | 3 => .agg #[.string e1.contact, .bool e1.kept, .string e1.name, g1, .int .i64 e1.half.o, .int .u64 e1.half.n, .int .i64 e1.half.i, .int .u64 e1.half.m] | 4 => .slice (some ⟨bq, oq, none⟩) l.length cb | 5 => .int .i64 j | 6 => .pointer (some ⟨bq, oq + j * 8, none⟩) | 7 => .agg #[.string e1.contact, .bool e1.kept, .string e1.name, g2, .int .i64 e1.half.o, .int .u64 e1.half.n, .int .i64 e1.half.i, .int .u64 e1.half.m] | 9 => .bool false | _ => undef)
        (Stage := fun rs wx => Reg.Reads wr (fun i => match i with | 8 => Reg.Tells.eq (.bool true) | _ => Reg.Tells.any) rs wx)
        (fun rs => [(some 23, .slice (some ⟨bp, op, none⟩) l.length ca), (some 24, .int .i64 j), (some 25, .pointer (some ⟨bp, op + j * 8, none⟩)), (some 26, .agg #[.string e1.contact, .bool e1.kept, .string e1.name, g1, .int .i64 e1.half.o, .int .u64 e1.half.n, .int .i64 e1.half.i, .int .u64 e1.half.m]), (some 27, .slice (some ⟨bq, oq, none⟩) l.length cb), (some 28, .int .i64 j), (some 29, .pointer (some ⟨bq, oq + j * 8, none⟩)), (some 30, .agg #[.string e1.contact, .bool e1.kept, .string e1.name, g2, .int .i64 e1.half.o, .int .u64 e1.half.n, .int .i64 e1.half.i, .int .u64 e1.half.m]), (some 31, (rs 8).getD undef), (some 32, .bool false)])
        (by kernel_rfl) (by kernel_rfl) rfl (fun _ => rfl) ?h0 ?hob ?hend
      case hob =>
        intro i hi
        match i, hi with
        | 0, _ => exact Reg.Ob.pure rfl rfl rfl (fun rs => .slice (some ⟨bp, op, none⟩) l.length ca) (fun _ => rfl) (fun rs wx a hs hd hl hk => by
            have e5 : (a.tmps[5]?).getD undef = .slice (some ⟨bp, op, none⟩) l.length ca := hk 5 (by decide)
            go_simp)
        | 1, _ => exact Reg.Ob.pure rfl rfl rfl (fun rs => .int .i64 j) (fun _ => rfl) (fun rs wx a hs hd hl hk => by
            have e7 : (a.tmps[7]?).getD undef = .int .i64 j := hk 7 (by decide)
            go_simp)
        | 2, _ => exact Reg.Ob.pure rfl rfl rfl (fun rs => .pointer (some ⟨bp, op + j * 8, none⟩)) (fun _ => rfl) (fun rs wx a hs hd hl hk => by
            have e23 : (a.tmps[23]?).getD undef = .slice (some ⟨bp, op, none⟩) l.length ca := hk 23 (by decide)
            have e24 : (a.tmps[24]?).getD undef = .int .i64 j := hk 24 (by decide)
            go_simp)
        | 3, _ => exact Reg.Ob.pure rfl rfl rfl (fun rs => .agg #[.string e1.contact, .bool e1.kept, .string e1.name, g1, .int .i64 e1.half.o, .int .u64 e1.half.n, .int .i64 e1.half.i, .int .u64 e1.half.m]) (fun _ => rfl) (fun rs wx a hs hd hl hk => by
            have e25 : (a.tmps[25]?).getD undef = .pointer (some ⟨bp, op + j * 8, none⟩) := hk 25 (by decide)
            have p0 : wx.cell? ⟨bp, op + j * 8, none⟩ = some (.string e1.contact) := (hs.below.cell zp).trans p0
            have p1 : wx.cell? ⟨bp, op + j * 8 + 1, none⟩ = some (.bool e1.kept) := (hs.below.cell zp).trans p1
            have p2 : wx.cell? ⟨bp, op + j * 8 + 2, none⟩ = some (.string e1.name) := (hs.below.cell zp).trans p2
            have p3 : wx.cell? ⟨bp, op + j * 8 + 3, none⟩ = some (g1) := (hs.below.cell zp).trans p3
            have p4 : wx.cell? ⟨bp, op + j * 8 + 4, none⟩ = some (.int .i64 e1.half.o) := (hs.below.cell zp).trans p4
            have p5 : wx.cell? ⟨bp, op + j * 8 + 5, none⟩ = some (.int .u64 e1.half.n) := (hs.below.cell zp).trans p5
            have p6 : wx.cell? ⟨bp, op + j * 8 + 6, none⟩ = some (.int .i64 e1.half.i) := (hs.below.cell zp).trans p6
            have p7 : wx.cell? ⟨bp, op + j * 8 + 7, none⟩ = some (.int .u64 e1.half.m) := (hs.below.cell zp).trans p7
            go_simp)
        | 4, _ => exact Reg.Ob.pure rfl rfl rfl (fun rs => .slice (some ⟨bq, oq, none⟩) l.length cb) (fun _ => rfl) (fun rs wx a hs hd hl hk => by
            have e6 : (a.tmps[6]?).getD undef = .slice (some ⟨bq, oq, none⟩) l.length cb := hk 6 (by decide)
            go_simp)
        | 5, _ => exact Reg.Ob.pure rfl rfl rfl (fun rs => .int .i64 j) (fun _ => rfl) (fun rs wx a hs hd hl hk => by
            have e7 : (a.tmps[7]?).getD undef = .int .i64 j := hk 7 (by decide)
            go_simp)
        | 6, _ => exact Reg.Ob.pure rfl rfl rfl (fun rs => .pointer (some ⟨bq, oq + j * 8, none⟩)) (fun _ => rfl) (fun rs wx a hs hd hl hk => by
            have e27 : (a.tmps[27]?).getD undef = .slice (some ⟨bq, oq, none⟩) l.length cb := hk 27 (by decide)
            have e28 : (a.tmps[28]?).getD undef = .int .i64 j := hk 28 (by decide)
            go_simp)
        | 7, _ => exact Reg.Ob.pure rfl rfl rfl (fun rs => .agg #[.string e1.contact, .bool e1.kept, .string e1.name, g2, .int .i64 e1.half.o, .int .u64 e1.half.n, .int .i64 e1.half.i, .int .u64 e1.half.m]) (fun _ => rfl) (fun rs wx a hs hd hl hk => by
            have e29 : (a.tmps[29]?).getD undef = .pointer (some ⟨bq, oq + j * 8, none⟩) := hk 29 (by decide)
            have q0 : wx.cell? ⟨bq, oq + j * 8, none⟩ = some (.string e1.contact) := (hs.below.cell zq).trans q0
            have q1 : wx.cell? ⟨bq, oq + j * 8 + 1, none⟩ = some (.bool e1.kept) := (hs.below.cell zq).trans q1
            have q2 : wx.cell? ⟨bq, oq + j * 8 + 2, none⟩ = some (.string e1.name) := (hs.below.cell zq).trans q2
            have q3 : wx.cell? ⟨bq, oq + j * 8 + 3, none⟩ = some (g2) := (hs.below.cell zq).trans q3
            have q4 : wx.cell? ⟨bq, oq + j * 8 + 4, none⟩ = some (.int .i64 e1.half.o) := (hs.below.cell zq).trans q4
            have q5 : wx.cell? ⟨bq, oq + j * 8 + 5, none⟩ = some (.int .u64 e1.half.n) := (hs.below.cell zq).trans q5
            have q6 : wx.cell? ⟨bq, oq + j * 8 + 6, none⟩ = some (.int .i64 e1.half.i) := (hs.below.cell zq).trans q6
            have q7 : wx.cell? ⟨bq, oq + j * 8 + 7, none⟩ = some (.int .u64 e1.half.m) := (hs.below.cell zq).trans q7
            go_simp)
        | 8, _ =>
          refine Reg.Ob.eff rfl rfl rfl ?_
          intro rs wx a hs hd hn hl hk K hK
          have e26 : (a.tmps[26]?).getD undef = .agg #[.string e1.contact, .bool e1.kept, .string e1.name, g1, .int .i64 e1.half.o, .int .u64 e1.half.n, .int .i64 e1.half.i, .int .u64 e1.half.m] := hk 26 (by decide)
          have e30 : (a.tmps[30]?).getD undef = .agg #[.string e1.contact, .bool e1.kept, .string e1.name, g2, .int .i64 e1.half.o, .int .u64 e1.half.n, .int .i64 e1.half.i, .int .u64 e1.half.m] := hk 30 (by decide)
          have HS := Lib.hid hs
          have HKK := Lib.hid hK
          clear hs hn hd hl hk hK
          go_simp
          refine (HCS.out _ HS.out.below).mono ?_
          rintro e w8 ⟨rfl, hb⟩
          refine HKK.out _ _ (HS.out.step hb ?_)
          show _ = _
          rw [sameE_eq]
          simp
        | 9, _ => exact Reg.Ob.pure rfl rfl rfl (fun rs => .bool false) (fun _ => rfl) (fun rs wx a hs hd hl hk => by
            have e31 : (a.tmps[31]?).getD undef = ((rs 8).getD undef) := hk 31 (by decide)
            obtain ⟨u, hu⟩ := hd 8 (by decide) (by decide)
            obtain rfl : u = .bool true := hs.res 8 u hu
            rw [hu] at e31
            simp only [Option.getD_some] at e31
            clear hs hd hl hk hu
            go_simp)
        | n + 10, h => exact absurd h (by simp <;> omega)
      case h0 =>
        exact Reg.Reads.start _ _
      case hend =>
        intro rs wx hs hd
        have HB := Lib.hid hs.below
        simp only [List.foldl_cons, List.foldl_nil, Act.put, List.setIfInBounds_toArray, List.set_cons_zero, List.set_cons_succ]
        clear hs hd
        go_wp2_with fail
        go_roundg (l.length - (j + 1))
        case measure => have := HJ.out.2; omega
        case rel => exact ⟨j + 1, by omega, rfl, by go_num, HX.out.trans (HB.out.mono HX.out.size)⟩
    · have t1 : ¬ (j : Int) < (l.length : Int) := by omega
      have hbw := HE.out.2.2.trans (hbx.mono HE.out.2.2.size)
      have hqr := HP0.out.2.1.below hbw
      have zqb := hqr.lt
      have dv : wr.cell? ⟨qb, 2, none⟩ = some (.int .u64 R.ver) := by
        obtain ⟨v, h1, _⟩ := hqr.box
        exact blk_cell h1 2
      have HP := Lib.hid (And.intro (HP0.out.1.below hbw) (And.intro hqr (And.intro HP0.out.2.2.1 HP0.out.2.2.2)))
      have HBW := Lib.hid hbw
      clear hbx hbw hqr HX hj hlt HP0 HE
      go_upto_region 9 with fail
      refine Reg.wp_region_puts (A := [[], [0], [], [2], [3, 2], [4, 3, 2], [5, 4, 3, 2], [1, 0, 6, 5, 4, 3, 2], [7, 1, 0, 6, 5, 4, 3, 2], [8, 7, 1, 0, 6, 5, 4, 3, 2], [9, 8, 7, 1, 0, 6, 5, 4, 3, 2], [8, 7, 1, 0, 6, 5, 4, 3, 2], [11, 8, 7, 1, 0, 6, 5, 4, 3, 2, 10, 9], [10, 9, 8, 7, 1, 0, 6, 5, 4, 3, 2, 12, 11], [8, 7, 1, 0, 6, 5, 4, 3, 2, 13, 10, 9, 12, 11], [14, 8, 7, 1, 0, 6, 5, 4, 3, 2, 13, 10, 9, 12, 11], [15, 14, 8, 7, 1, 0, 6, 5, 4, 3, 2, 13, 10, 9, 12, 11], [16, 15, 14, 8, 7, 1, 0, 6, 5, 4, 3, 2, 13, 10, 9, 12, 11], [15, 14, 8, 7, 1, 0, 6, 5, 4, 3, 2, 13, 10, 9, 12, 11], [18, 15, 14, 8, 7, 1, 0, 6, 5, 4, 3, 2, 13, 10, 9, 12, 11, 17, 16], [17, 16, 15, 14, 8, 7, 1, 0, 6, 5, 4, 3, 2, 13, 10, 9, 12, 11, 19, 18], [15, 14, 8, 7, 1, 0, 6, 5, 4, 3, 2, 13, 10, 9, 12, 11, 20, 17, 16, 19, 18], [21, 15, 14, 8, 7, 1, 0, 6, 5, 4, 3, 2, 13, 10, 9, 12, 11, 20, 17, 16, 19, 18], [22, 21, 15, 14, 8, 7, 1, 0, 6, 5, 4, 3, 2, 13, 10, 9, 12, 11, 20, 17, 16, 19, 18], [23, 22, 21, 15, 14, 8, 7, 1, 0, 6, 5, 4, 3, 2, 13, 10, 9, 12, 11, 20, 17, 16, 19, 18], [22, 21, 15, 14, 8, 7, 1, 0, 6, 5, 4, 3, 2, 13, 10, 9, 12, 11, 20, 17, 16, 19, 18], [25, 22, 21, 15, 14, 8, 7, 1, 0, 6, 5, 4, 3, 2, 13, 10, 9, 12, 11, 20, 17, 16, 19, 18, 24, 23], [24, 23, 22, 21, 15, 14, 8, 7, 1, 0, 6, 5, 4, 3, 2, 13, 10, 9, 12, 11, 20, 17, 16, 19, 18, 26, 25], [22, 21, 15, 14, 8, 7, 1, 0, 6, 5, 4, 3, 2, 13, 10, 9, 12, 11, 20, 17, 16, 19, 18, 27, 24, 23, 26, 25], [28, 22, 21, 15, 14, 8, 7, 1, 0, 6, 5, 4, 3, 2, 13, 10, 9, 12, 11, 20, 17, 16, 19, 18, 27, 24, 23, 26, 25], [29, 28, 22, 21, 15, 14, 8, 7, 1, 0, 6, 5, 4, 3, 2, 13, 10, 9, 12, 11, 20, 17, 16, 19, 18, 27, 24, 23, 26, 25], [30, 29, 28, 22, 21, 15, 14, 8, 7, 1, 0, 6, 5, 4, 3, 2, 13, 10, 9, 12, 11, 20, 17, 16, 19, 18, 27, 24, 23, 26, 25], [29, 28, 22, 21, 15, 14, 8, 7, 1, 0, 6, 5, 4, 3, 2, 13, 10, 9, 12, 11, 20, 17, 16, 19, 18, 27, 24, 23, 26, 25], [32, 29, 28, 22, 21, 15, 14, 8, 7, 1, 0, 6, 5, 4, 3, 2, 13, 10, 9, 12, 11, 20, 17, 16, 19, 18, 27, 24, 23, 26, 25, 31, 30], [31, 30, 29, 28, 22, 21, 15, 14, 8, 7, 1, 0, 6, 5, 4, 3, 2, 13, 10, 9, 12, 11, 20, 17, 16, 19, 18, 27, 24, 23, 26, 25, 33, 32], [29, 28, 22, 21, 15, 14, 8, 7, 1, 0, 6, 5, 4, 3, 2, 13, 10, 9, 12, 11, 20, 17, 16, 19, 18, 27, 24, 23, 26, 25, 34, 31, 30, 33, 32], [35, 29, 28, 22, 21, 15, 14, 8, 7, 1, 0, 6, 5, 4, 3, 2, 13, 10, 9, 12, 11, 20, 17, 16, 19, 18, 27, 24, 23, 26, 25, 34, 31, 30, 33, 32]]) (effs := [1, 10, 12, 13, 17, 19, 20, 24, 26, 27, 31, 33, 34]) (N := 69)
        (val := fun i r => match i with | 0 => .pointer (some ⟨rb, 0, none⟩) | 2 => .pointer (some ⟨qb, 0, none⟩) | 3 => .pointer (some ⟨qb, 0, none⟩) | 4 => .pointer (some ⟨qb, 0, none⟩) | 5 => .pointer (some ⟨qb, 2, none⟩) | 6 => .int .u64 R.ver | 7 => .bool true | 8 => .bool true | 9 => .pointer (some ⟨rb, 0, none⟩) | 11 => .pointer (some ⟨qb, 0, none⟩) | 14 => .bool true | 15 => .bool true | 16 => .pointer (some ⟨rb, 0, none⟩) | 18 => .pointer (some ⟨qb, 0, none⟩) | 21 => .bool true | 22 => .bool true | 23 => .pointer (some ⟨rb, 0, none⟩) | 25 => .pointer (some ⟨qb, 0, none⟩) | 28 => .bool true | 29 => .bool true | 30 => .pointer (some ⟨rb, 0, none⟩) | 32 => .pointer (some ⟨qb, 0, none⟩) | 35 => .bool true | 36 => .bool true | _ => undef)
        (Stage := fun rs wx => Reg.Reads wr (T16 R) rs wx)
        (fun rs => [(some 33, .pointer (some ⟨rb, 0, none⟩)), (some 34, (rs 1).getD undef), (some 35, .pointer (some ⟨qb, 0, none⟩)), (some 36, .pointer (some ⟨qb, 0, none⟩)), (some 37, .pointer (some ⟨qb, 0, none⟩)), (some 38, .pointer (some ⟨qb, 2, none⟩)), (some 39, .int .u64 R.ver), (some 40, .bool true), (some 41, .bool true), (some 42, .pointer (some ⟨rb, 0, none⟩)), (some 43, (rs 10).getD undef), (some 44, .pointer (some ⟨qb, 0, none⟩)), (some 45, (rs 12).getD undef), (some 46, (rs 13).getD undef), (some 47, .bool true), (some 48, .bool true), (some 49, .pointer (some ⟨rb, 0, none⟩)), (some 50, (rs 17).getD undef), (some 51, .pointer (some ⟨qb, 0, none⟩)), (some 52, (rs 19).getD undef), (some 53, (rs 20).getD undef), (some 54, .bool true), (some 55, .bool true), (some 56, .pointer (some ⟨rb, 0, none⟩)), (some 57, (rs 24).getD undef), (some 58, .pointer (some ⟨qb, 0, none⟩)), (some 59, (rs 26).getD undef), (some 60, (rs 27).getD undef), (some 61, .bool true), (some 62, .bool true), (some 63, .pointer (some ⟨rb, 0, none⟩)), (some 64, (rs 31).getD undef), (some 65, .pointer (some ⟨qb, 0, none⟩)), (some 66, (rs 33).getD undef), (some 67, (rs 34).getD undef), (some 68, .bool true), (some 4, .bool true)])
        (by kernel_rfl) (by kernel_rfl) rfl (fun _ => rfl) ?h0 ?hob ?hend
      case hob =>
        intro i hi
        match i, hi with
        | 0, _ => exact Reg.Ob.pure rfl rfl rfl (fun rs => .pointer (some ⟨rb, 0, none⟩)) (fun _ => rfl) (fun rs wx a hs hd hl hk => by
            have e0 : (a.tmps[0]?).getD undef = .pointer (some ⟨rb, 0, none⟩) := hk 0 (by decide)
            go_simp)
        | 1, _ =>
          refine Reg.Ob.eff rfl rfl rfl ?_
          intro rs wx a hs hd hn hl hk K hK
          have e33 : (a.tmps[33]?).getD undef = .pointer (some ⟨rb, 0, none⟩) := hk 33 (by decide)
          have HS := Lib.hid hs
          have HKK := Lib.hid hK
          clear hs hn hd hl hk hK
          go_simp
          refine (rver_any (HP.out.1.below HS.out.below)).mono ?_
          rintro e w5 ⟨rfl, hb⟩
          refine HKK.out _ _ (HS.out.step hb rfl)
        | 2, _ => exact Reg.Ob.pure rfl rfl rfl (fun rs => .pointer (some ⟨qb, 0, none⟩)) (fun _ => rfl) (fun rs wx a hs hd hl hk => by
            have e1 : (a.tmps[1]?).getD undef = .pointer (some ⟨qb, 0, none⟩) := hk 1 (by decide)
            go_simp)
        | 3, _ => exact Reg.Ob.pure rfl rfl rfl (fun rs => .pointer (some ⟨qb, 0, none⟩)) (fun _ => rfl) (fun rs wx a hs hd hl hk => by
            have e35 : (a.tmps[35]?).getD undef = .pointer (some ⟨qb, 0, none⟩) := hk 35 (by decide)
            go_simp)
        | 4, _ => exact Reg.Ob.pure rfl rfl rfl (fun rs => .pointer (some ⟨qb, 0, none⟩)) (fun _ => rfl) (fun rs wx a hs hd hl hk => by
            have e36 : (a.tmps[36]?).getD undef = .pointer (some ⟨qb, 0, none⟩) := hk 36 (by decide)
            go_simp)
        | 5, _ => exact Reg.Ob.pure rfl rfl rfl (fun rs => .pointer (some ⟨qb, 2, none⟩)) (fun _ => rfl) (fun rs wx a hs hd hl hk => by
            have e37 : (a.tmps[37]?).getD undef = .pointer (some ⟨qb, 0, none⟩) := hk 37 (by decide)
            go_simp)
        | 6, _ => exact Reg.Ob.pure rfl rfl rfl (fun rs => .int .u64 R.ver) (fun _ => rfl) (fun rs wx a hs hd hl hk => by
            have e38 : (a.tmps[38]?).getD undef = .pointer (some ⟨qb, 2, none⟩) := hk 38 (by decide)
            have c : wx.cell? ⟨qb, 2, none⟩ = some (.int .u64 R.ver) := (hs.below.cell (p := ⟨qb, 2, none⟩) zqb).trans dv
            go_simp)
        | 7, _ => exact Reg.Ob.pure rfl rfl rfl (fun rs => .bool true) (fun _ => rfl) (fun rs wx a hs hd hl hk => by
            have e34 : (a.tmps[34]?).getD undef = ((rs 1).getD undef) := hk 34 (by decide)
            have e39 : (a.tmps[39]?).getD undef = .int .u64 R.ver := hk 39 (by decide)
            obtain ⟨u, hu⟩ := hd 1 (by decide) (by decide)
            obtain rfl : u = .int .u64 R.ver := hs.res 1 u hu
            rw [hu] at e34
            simp only [Option.getD_some] at e34
            clear hs hd hl hk hu
            go_simp)
        | 8, _ => exact Reg.Ob.pure rfl rfl rfl (fun rs => .bool true) (fun _ => rfl) (fun rs wx a hs hd hl hk => by
            have e40 : (a.tmps[40]?).getD undef = .bool true := hk 40 (by decide)
            go_simp)
        | 9, _ => exact Reg.Ob.guarded rfl rfl (fun rs => .pointer (some ⟨rb, 0, none⟩)) (fun _ => rfl) (fun rs w hs hd => rfl) (fun rs wx a hs hd hl hk => by
            have e0 : (a.tmps[0]?).getD undef = .pointer (some ⟨rb, 0, none⟩) := hk 0 (by decide)
            go_simp)
        | 10, _ =>
          refine Reg.Ob.geff rfl rfl (fun rs w hs hd => rfl) ?_
          intro rs wx a hs hd hn hl hk K hK
          have e42 : (a.tmps[42]?).getD undef = .pointer (some ⟨rb, 0, none⟩) := hk 42 (by decide)
          have HS := Lib.hid hs
          have HKK := Lib.hid hK
          clear hs hn hd hl hk hK
          go_simp
          refine (waiting_any (HP.out.1.below HS.out.below) HLN.out HP.out.2.2.2).mono ?_
          rintro e w5 ⟨⟨A, c, rfl, hs5⟩, hb⟩
          refine HKK.out _ _ (HS.out.step hb ⟨A, c, rfl, strs_of_seq hs5 (Nat.le_trans (HP.out.2.2.1.withs_le _) (Nat.le_trans HLN.out (by decide)))⟩)
        | 11, _ => exact Reg.Ob.guarded rfl rfl (fun rs => .pointer (some ⟨qb, 0, none⟩)) (fun _ => rfl) (fun rs w hs hd => rfl) (fun rs wx a hs hd hl hk => by
            have e1 : (a.tmps[1]?).getD undef = .pointer (some ⟨qb, 0, none⟩) := hk 1 (by decide)
            go_simp)
        | 12, _ =>
          refine Reg.Ob.geff rfl rfl (fun rs w hs hd => rfl) ?_
          intro rs wx a hs hd hn hl hk K hK
          have e44 : (a.tmps[44]?).getD undef = .pointer (some ⟨qb, 0, none⟩) := hk 44 (by decide)
          have HS := Lib.hid hs
          have HKK := Lib.hid hK
          clear hs hn hd hl hk hK
          go_simp
          refine (q16with_in (HP.out.2.1.below HS.out.below) (by rw [HP.out.2.2.1.len]; exact HLN.out) 1).mono ?_
          rintro e w5 ⟨⟨A, c, rfl, hs5⟩, hb⟩
          refine HKK.out _ _ (HS.out.step hb ⟨A, c, rfl, strs_of_seq hs5 (Nat.le_trans (HP.out.2.2.1.withs_le _) (Nat.le_trans HLN.out (by decide)))⟩)
        | 13, _ =>
          refine Reg.Ob.geff rfl rfl (fun rs w hs hd => rfl) ?_
          intro rs wx a hs hd hn hl hk K hK
          have e43 : (a.tmps[43]?).getD undef = ((rs 10).getD undef) := hk 43 (by decide)
          have e45 : (a.tmps[45]?).getD undef = ((rs 12).getD undef) := hk 45 (by decide)
          obtain ⟨u, hu⟩ := hd 10 (by decide) (by decide)
          obtain ⟨A1, c1, rfl, h1⟩ := hs.res 10 u hu
          obtain ⟨u2, hu2⟩ := hd 12 (by decide) (by decide)
          obtain ⟨A2, c2, rfl, h2⟩ := hs.res 12 u2 hu2
          rw [hu] at e43
          rw [hu2] at e45
          simp only [Option.getD_some] at e43 e45
          have C := Lib.hid (same_any _ _ _ _ wx h1 h2)
          have HS := Lib.hid hs
          have HKK := Lib.hid hK
          clear hs hn hd hl hk hK hu hu2 h1 h2
          go_simp
          refine C.out.mono ?_
          rintro e w5 ⟨rfl, hb⟩
          refine HKK.out _ _ (HS.out.step hb (by show _ = _; simp))
        | 14, _ => exact Reg.Ob.pure rfl rfl rfl (fun rs => .bool true) (fun _ => rfl) (fun rs wx a hs hd hl hk => by
            have e41 : (a.tmps[41]?).getD undef = .bool true := hk 41 (by decide)
            have e46 : (a.tmps[46]?).getD undef = ((rs 13).getD undef) := hk 46 (by decide)
            obtain ⟨u, hu⟩ := hd 13 (by decide) (by decide)
            obtain rfl : u = .bool true := hs.res 13 u hu
            rw [hu] at e46
            simp only [Option.getD_some] at e46
            clear hs hd hl hk hu
            go_simp)
        | 15, _ => exact Reg.Ob.pure rfl rfl rfl (fun rs => .bool true) (fun _ => rfl) (fun rs wx a hs hd hl hk => by
            have e47 : (a.tmps[47]?).getD undef = .bool true := hk 47 (by decide)
            go_simp)
        | 16, _ => exact Reg.Ob.guarded rfl rfl (fun rs => .pointer (some ⟨rb, 0, none⟩)) (fun _ => rfl) (fun rs w hs hd => rfl) (fun rs wx a hs hd hl hk => by
            have e0 : (a.tmps[0]?).getD undef = .pointer (some ⟨rb, 0, none⟩) := hk 0 (by decide)
            go_simp)
        | 17, _ =>
          refine Reg.Ob.geff rfl rfl (fun rs w hs hd => rfl) ?_
          intro rs wx a hs hd hn hl hk K hK
          have e49 : (a.tmps[49]?).getD undef = .pointer (some ⟨rb, 0, none⟩) := hk 49 (by decide)
          have HS := Lib.hid hs
          have HKK := Lib.hid hK
          clear hs hn hd hl hk hK
          go_simp
          refine (seeing_any (HP.out.1.below HS.out.below) HLN.out HP.out.2.2.2).mono ?_
          rintro e w5 ⟨⟨A, c, rfl, hs5⟩, hb⟩
          refine HKK.out _ _ (HS.out.step hb ⟨A, c, rfl, strs_of_seq hs5 (Nat.le_trans (HP.out.2.2.1.withs_le _) (Nat.le_trans HLN.out (by decide)))⟩)
        | 18, _ => exact Reg.Ob.guarded rfl rfl (fun rs => .pointer (some ⟨qb, 0, none⟩)) (fun _ => rfl) (fun rs w hs hd => rfl) (fun rs wx a hs hd hl hk => by
            have e1 : (a.tmps[1]?).getD undef = .pointer (some ⟨qb, 0, none⟩) := hk 1 (by decide)
            go_simp)
        | 19, _ =>
          refine Reg.Ob.geff rfl rfl (fun rs w hs hd => rfl) ?_
          intro rs wx a hs hd hn hl hk K hK
          have e51 : (a.tmps[51]?).getD undef = .pointer (some ⟨qb, 0, none⟩) := hk 51 (by decide)
          have HS := Lib.hid hs
          have HKK := Lib.hid hK
          clear hs hn hd hl hk hK
          go_simp
          refine (q16with_in (HP.out.2.1.below HS.out.below) (by rw [HP.out.2.2.1.len]; exact HLN.out) 2).mono ?_
          rintro e w5 ⟨⟨A, c, rfl, hs5⟩, hb⟩
          refine HKK.out _ _ (HS.out.step hb ⟨A, c, rfl, strs_of_seq hs5 (Nat.le_trans (HP.out.2.2.1.withs_le _) (Nat.le_trans HLN.out (by decide)))⟩)
        | 20, _ =>
          refine Reg.Ob.geff rfl rfl (fun rs w hs hd => rfl) ?_
          intro rs wx a hs hd hn hl hk K hK
          have e50 : (a.tmps[50]?).getD undef = ((rs 17).getD undef) := hk 50 (by decide)
          have e52 : (a.tmps[52]?).getD undef = ((rs 19).getD undef) := hk 52 (by decide)
          obtain ⟨u, hu⟩ := hd 17 (by decide) (by decide)
          obtain ⟨A1, c1, rfl, h1⟩ := hs.res 17 u hu
          obtain ⟨u2, hu2⟩ := hd 19 (by decide) (by decide)
          obtain ⟨A2, c2, rfl, h2⟩ := hs.res 19 u2 hu2
          rw [hu] at e50
          rw [hu2] at e52
          simp only [Option.getD_some] at e50 e52
          have C := Lib.hid (same_any _ _ _ _ wx h1 h2)
          have HS := Lib.hid hs
          have HKK := Lib.hid hK
          clear hs hn hd hl hk hK hu hu2 h1 h2
          go_simp
          refine C.out.mono ?_
          rintro e w5 ⟨rfl, hb⟩
          refine HKK.out _ _ (HS.out.step hb (by show _ = _; simp))
        | 21, _ => exact Reg.Ob.pure rfl rfl rfl (fun rs => .bool true) (fun _ => rfl) (fun rs wx a hs hd hl hk => by
            have e48 : (a.tmps[48]?).getD undef = .bool true := hk 48 (by decide)
            have e53 : (a.tmps[53]?).getD undef = ((rs 20).getD undef) := hk 53 (by decide)
            obtain ⟨u, hu⟩ := hd 20 (by decide) (by decide)
            obtain rfl : u = .bool true := hs.res 20 u hu
            rw [hu] at e53
            simp only [Option.getD_some] at e53
            clear hs hd hl hk hu
            go_simp)
        | 22, _ => exact Reg.Ob.pure rfl rfl rfl (fun rs => .bool true) (fun _ => rfl) (fun rs wx a hs hd hl hk => by
            have e54 : (a.tmps[54]?).getD undef = .bool true := hk 54 (by decide)
            go_simp)
        | 23, _ => exact Reg.Ob.guarded rfl rfl (fun rs => .pointer (some ⟨rb, 0, none⟩)) (fun _ => rfl) (fun rs w hs hd => rfl) (fun rs wx a hs hd hl hk => by
            have e0 : (a.tmps[0]?).getD undef = .pointer (some ⟨rb, 0, none⟩) := hk 0 (by decide)
            go_simp)
        | 24, _ =>
          refine Reg.Ob.geff rfl rfl (fun rs w hs hd => rfl) ?_
          intro rs wx a hs hd hn hl hk K hK
          have e56 : (a.tmps[56]?).getD undef = .pointer (some ⟨rb, 0, none⟩) := hk 56 (by decide)
          have HS := Lib.hid hs
          have HKK := Lib.hid hK
          clear hs hn hd hl hk hK
          go_simp
          refine (seen_any (HP.out.1.below HS.out.below) HLN.out HP.out.2.2.2).mono ?_
          rintro e w5 ⟨⟨A, c, rfl, hs5⟩, hb⟩
          refine HKK.out _ _ (HS.out.step hb ⟨A, c, rfl, strs_of_seq hs5 (Nat.le_trans (HP.out.2.2.1.withs_le _) (Nat.le_trans HLN.out (by decide)))⟩)
        | 25, _ => exact Reg.Ob.guarded rfl rfl (fun rs => .pointer (some ⟨qb, 0, none⟩)) (fun _ => rfl) (fun rs w hs hd => rfl) (fun rs wx a hs hd hl hk => by
            have e1 : (a.tmps[1]?).getD undef = .pointer (some ⟨qb, 0, none⟩) := hk 1 (by decide)
            go_simp)
        | 26, _ =>
          refine Reg.Ob.geff rfl rfl (fun rs w hs hd => rfl) ?_
          intro rs wx a hs hd hn hl hk K hK
          have e58 : (a.tmps[58]?).getD undef = .pointer (some ⟨qb, 0, none⟩) := hk 58 (by decide)
          have HS := Lib.hid hs
          have HKK := Lib.hid hK
          clear hs hn hd hl hk hK
          go_simp
          refine (q16with_out (HP.out.2.1.below HS.out.below) (by rw [HP.out.2.2.1.len]; exact HLN.out) 2).mono ?_
          rintro e w5 ⟨⟨A, c, rfl, hs5⟩, hb⟩
          refine HKK.out _ _ (HS.out.step hb ⟨A, c, rfl, strs_of_seq hs5 (Nat.le_trans (HP.out.2.2.1.withs_le _) (Nat.le_trans HLN.out (by decide)))⟩)
        | 27, _ =>
          refine Reg.Ob.geff rfl rfl (fun rs w hs hd => rfl) ?_
          intro rs wx a hs hd hn hl hk K hK
          have e57 : (a.tmps[57]?).getD undef = ((rs 24).getD undef) := hk 57 (by decide)
          have e59 : (a.tmps[59]?).getD undef = ((rs 26).getD undef) := hk 59 (by decide)
          obtain ⟨u, hu⟩ := hd 24 (by decide) (by decide)
          obtain ⟨A1, c1, rfl, h1⟩ := hs.res 24 u hu
          obtain ⟨u2, hu2⟩ := hd 26 (by decide) (by decide)
          obtain ⟨A2, c2, rfl, h2⟩ := hs.res 26 u2 hu2
          rw [hu] at e57
          rw [hu2] at e59
          simp only [Option.getD_some] at e57 e59
          have C := Lib.hid (same_any _ _ _ _ wx h1 h2)
          have HS := Lib.hid hs
          have HKK := Lib.hid hK
          clear hs hn hd hl hk hK hu hu2 h1 h2
          go_simp
          refine C.out.mono ?_
          rintro e w5 ⟨rfl, hb⟩
          refine HKK.out _ _ (HS.out.step hb (by show _ = _; simp))
        | 28, _ => exact Reg.Ob.pure rfl rfl rfl (fun rs => .bool true) (fun _ => rfl) (fun rs wx a hs hd hl hk => by
            have e55 : (a.tmps[55]?).getD undef = .bool true := hk 55 (by decide)
            have e60 : (a.tmps[60]?).getD undef = ((rs 27).getD undef) := hk 60 (by decide)
            obtain ⟨u, hu⟩ := hd 27 (by decide) (by decide)
            obtain rfl : u = .bool true := hs.res 27 u hu
            rw [hu] at e60
            simp only [Option.getD_some] at e60
            clear hs hd hl hk hu
            go_simp)
        | 29, _ => exact Reg.Ob.pure rfl rfl rfl (fun rs => .bool true) (fun _ => rfl) (fun rs wx a hs hd hl hk => by
            have e61 : (a.tmps[61]?).getD undef = .bool true := hk 61 (by decide)
            go_simp)
        | 30, _ => exact Reg.Ob.guarded rfl rfl (fun rs => .pointer (some ⟨rb, 0, none⟩)) (fun _ => rfl) (fun rs w hs hd => rfl) (fun rs wx a hs hd hl hk => by
            have e0 : (a.tmps[0]?).getD undef = .pointer (some ⟨rb, 0, none⟩) := hk 0 (by decide)
            go_simp)
        | 31, _ =>
          refine Reg.Ob.geff rfl rfl (fun rs w hs hd => rfl) ?_
          intro rs wx a hs hd hn hl hk K hK
          have e63 : (a.tmps[63]?).getD undef = .pointer (some ⟨rb, 0, none⟩) := hk 63 (by decide)
          have HS := Lib.hid hs
          have HKK := Lib.hid hK
          clear hs hn hd hl hk hK
          go_simp
          refine (book_any (HP.out.1.below HS.out.below) HLN.out HP.out.2.2.2).mono ?_
          rintro e w5 ⟨A, c, rfl, hE, hb⟩
          refine HKK.out _ _ (HS.out.step hb ⟨A, c, rfl, hE.lower (Nat.zero_le _)⟩)
        | 32, _ => exact Reg.Ob.guarded rfl rfl (fun rs => .pointer (some ⟨qb, 0, none⟩)) (fun _ => rfl) (fun rs w hs hd => rfl) (fun rs wx a hs hd hl hk => by
            have e1 : (a.tmps[1]?).getD undef = .pointer (some ⟨qb, 0, none⟩) := hk 1 (by decide)
            go_simp)
        | 33, _ =>
          refine Reg.Ob.geff rfl rfl (fun rs w hs hd => rfl) ?_
          intro rs wx a hs hd hn hl hk K hK
          have e65 : (a.tmps[65]?).getD undef = .pointer (some ⟨qb, 0, none⟩) := hk 65 (by decide)
          have HS := Lib.hid hs
          have HKK := Lib.hid hK
          clear hs hn hd hl hk hK
          go_simp
          refine (q16book_any (HP.out.2.1.below HS.out.below) (by rw [HP.out.2.2.1.len]; exact HLN.out) HFEW.out).mono ?_
          rintro e w5 ⟨A, c, rfl, hE, hb⟩
          refine HKK.out _ _ (HS.out.step hb ⟨A, c, rfl, hE.lower (Nat.zero_le _)⟩)
        | 34, _ =>
          refine Reg.Ob.geff rfl rfl (fun rs w hs hd => rfl) ?_
          intro rs wx a hs hd hn hl hk K hK
          have e64 : (a.tmps[64]?).getD undef = ((rs 31).getD undef) := hk 64 (by decide)
          have e66 : (a.tmps[66]?).getD undef = ((rs 33).getD undef) := hk 66 (by decide)
          obtain ⟨u, hu⟩ := hd 31 (by decide) (by decide)
          obtain ⟨A1, c1, rfl, h1⟩ := hs.res 31 u hu
          obtain ⟨u2, hu2⟩ := hd 33 (by decide) (by decide)
          obtain ⟨A2, c2, rfl, h2⟩ := hs.res 33 u2 hu2
          rw [hu] at e64
          rw [hu2] at e66
          simp only [Option.getD_some] at e64 e66
          have C := Lib.hid (samebook_any wx R.items R.asks R.ver R.next _ _ _ h1 h2)
          have HS := Lib.hid hs
          have HKK := Lib.hid hK
          clear hs hn hd hl hk hK hu hu2 h1 h2
          go_simp
          refine C.out.mono ?_
          rintro e w5 ⟨rfl, hb⟩
          refine HKK.out _ _ (HS.out.step hb rfl)
        | 35, _ => exact Reg.Ob.pure rfl rfl rfl (fun rs => .bool true) (fun _ => rfl) (fun rs wx a hs hd hl hk => by
            have e62 : (a.tmps[62]?).getD undef = .bool true := hk 62 (by decide)
            have e67 : (a.tmps[67]?).getD undef = ((rs 34).getD undef) := hk 67 (by decide)
            obtain ⟨u, hu⟩ := hd 34 (by decide) (by decide)
            obtain rfl : u = .bool true := hs.res 34 u hu
            rw [hu] at e67
            simp only [Option.getD_some] at e67
            clear hs hd hl hk hu
            go_simp)
        | 36, _ => exact Reg.Ob.pure rfl rfl rfl (fun rs => .bool true) (fun _ => rfl) (fun rs wx a hs hd hl hk => by
            have e68 : (a.tmps[68]?).getD undef = .bool true := hk 68 (by decide)
            go_simp)
        | n + 37, h => exact absurd h (by simp <;> omega)
      case h0 =>
        exact Reg.Reads.start _ _
      case hend =>
        intro rs wx hs hd
        have HB := Lib.hid hs.below
        simp only [List.foldl_cons, List.foldl_nil, Act.put, List.setIfInBounds_toArray, List.set_cons_zero, List.set_cons_succ]
        clear hs hd
        go_wp2_with fail
        go_ret
        exact ⟨rfl, HBW.out.trans (HB.out.mono HBW.out.size)⟩

end Go.Proofs.YthbjcihdlhkboaaGreatDoor

namespace Go.Proofs.YthbjcihdlhkboaaGreatDoor
set_option linter.unusedSimpArgs false
set_option linter.unusedVariables false
open Go.RowKit Go.Maps Go.Shelf Go.Lib

/-- One call. -/
structure OpD where
  act : Int
  contact : ByteArray
  name : ByteArray
  gv : Value
  groups : List ByteArray
  kind : Int
  n : Int
abbrev OpD.cells (o : OpD) : Array Value := #[.int .i64 o.act, .string o.contact, .string o.name, o.gv, .int .i64 o.kind, .int .u64 o.n]
/-- The calls, as they lie in memory. -/
structure OpsAt (w : World) (A : Option Addr) (L : Nat) (E : Nat → OpD) : Prop where
  at_ : 0 < L → ∃ b off, A = some ⟨b, off, none⟩ ∧ b < w.heap.size ∧ ∀ i, i < L → (∀ j, j < 6 → w.cell? ⟨b, off + i * 6 + j, none⟩ = (E i).cells[j]?) ∧ Strs w (E i).gv (E i).groups ∧ (E i).contact.size ≤ 9223372036854775807 ∧ (E i).name.size ≤ 9223372036854775807 ∧ 0 ≤ (E i).n ∧ (E i).n < 18446744073709551616

theorem RoAtK.tightK {w : World} {B rb mb n : Nat} {D : DataW Value} {R : RS} {kc : Int} (h : RoAtK w B rb mb n D R kc) : RoAtK w B rb mb R.list.length D R kc :=
  have hown : w.ownsMap Tryz.prog 9 tokR mb R.list.length D := by
    have hs := h.size
    obtain ⟨es, clock, hb, F, _, hD⟩ := h.own
    refine ⟨es, clock, hb, F, ?_, hD⟩
    rw [← hs, hD]
    simp [Maps.size, length_sorted]
  { h with own := hown }

theorem RInv.key_le {R : RS} {w : World} {B rb mb n : Nat} {D : DataW Value} {kc : Int} (h : RoAtK w B rb mb n D R kc) : ∀ s, (R.get s).isSome = true → s.size ≤ maxLen := by
  intro s hs
  have hm := RS.mem_list.1 hs
  obtain ⟨p, hp, rfl⟩ := List.mem_map.1 hm
  have := strKeys_le h.own Tryz.underlying9 (bl p.1) (h.keys.mem_iff.1 (List.mem_map.2 ⟨p, hp, rfl⟩))
  simpa using this

section
variable {w wx w2 : World} {rb mb k : Nat} {R R' : RS}

end

end Go.Proofs.YthbjcihdlhkboaaGreatDoor
