/- The reference's roster: Act. -/
import Derived.Test.YthbjcihdlhkboaaGreatDoorQ18
import Derived.Test.YthbjcihdlhkboaaGreatDoorQ28
namespace Go.Proofs.YthbjcihdlhkboaaGreatDoor
set_option linter.unusedSimpArgs false
set_option linter.unusedVariables false
open Go.RowKit Go.Maps Go.Shelf Go.Lib

/-- Told of the call of subs.Act. -/
structure AcSt (w0 wx : World) (v : Value) (y0 y1 y2 y3 : Value) (rs : Nat → Option Value) : Prop where
  below : Below w0.heap.size w0 wx
  res : ∀ u, rs 9 = some u → u = v
  al : ∀ u, rs 15 = some u → ∃ b, u = .pointer (some ⟨b, 0, none⟩) ∧ w0.heap.size ≤ b ∧ ∃ z0 z1 z2 z3, wx.heap[b]? = some (.cells #[z0, z1, z2, z3] 52) ∧ (rs 16 ≠ none → z0 = y0 ∧ z1 = y1 ∧ z2 = y2 ∧ z3 = y3)
/-- What subs.Act answers, whatever it is. -/
theorem q15act_z (h : Half) (k n : Int) : ∃ ae : Int, ∀ w : World, Calls Tryz.prog 122 #[h.val, .int .i64 k, .int .u64 n] w fun e w' => e = .returned (.tuple #[(actZ h k n).1.val, .int .i64 (actZ h k n).2.1, .int .u64 (actZ h k n).2.2, .int .i64 ae]) ∧ Below w.heap.size w w' := by
  have C := q15act_any h k n
  unfold actZ
  cases hs : actS h k n with
  | none => rw [hs] at C; exact ⟨1, C⟩
  | some x => obtain ⟨hh, mm, nn⟩ := x; rw [hs] at C; exact ⟨0, C⟩

theorem QAt.half {w : World} {B qb c : Nat} {X : Nat → Prop} {R : RS} (h : QAt w B X qb R) (hb : X c) (hne : c ≠ qb) (y0 y1 y2 y3 : Value) : QAt ((((w.setCell ⟨c, 4, none⟩ y0).setCell ⟨c, 5, none⟩ y1).setCell ⟨c, 6, none⟩ y2).setCell ⟨c, 7, none⟩ y3) B X qb R :=
  h.upd (ks := fun k => k = c) (Upd.setCell (Upd.setCell (Upd.setCell (Upd.setCell (Upd.refl w.heap.size (fun k => k = c) w) (a := (⟨c, 4, none⟩ : Addr)) (.inl rfl) y0) (a := (⟨c, 5, none⟩ : Addr)) (.inl rfl) y1) (a := (⟨c, 6, none⟩ : Addr)) (.inl rfl) y2) (a := (⟨c, 7, none⟩ : Addr)) (.inl rfl) y3) (Nat.le_refl _) (fun e => hne e.symm) (fun k cs T e _ => .inl (e ▸ hb))
theorem half_upd {w0 w : World} {B c : Nat} {ks : Nat → Prop} (h : Upd B ks w0 w) (hB : B ≤ c) (y0 y1 y2 y3 : Value) : Upd B ks w0 ((((w.setCell ⟨c, 4, none⟩ y0).setCell ⟨c, 5, none⟩ y1).setCell ⟨c, 6, none⟩ y2).setCell ⟨c, 7, none⟩ y3) :=
  Upd.setCell (Upd.setCell (Upd.setCell (Upd.setCell h (a := (⟨c, 4, none⟩ : Addr)) (.inr hB) y0) (a := (⟨c, 5, none⟩ : Addr)) (.inr hB) y1) (a := (⟨c, 6, none⟩ : Addr)) (.inr hB) y2) (a := (⟨c, 7, none⟩ : Addr)) (.inr hB) y3
/-- Told between the statements of Act. -/
structure AcMid (w wx : World) (B qb b12 b14 : Nat) (X : Nat → Prop) (R : RS) (e : Ent) (A : Option Addr) (c : Nat) (ho hn2 hi hm : Int) : Prop where
  c2 : wx.heap[b12]? = some (.cells #[.string e.contact, .bool e.kept, .string e.name, .slice A e.groups.length c, .int .i64 e.half.o, .int .u64 e.half.n, .int .i64 e.half.i, .int .u64 e.half.m] 54)
  c4 : wx.heap[b14]? = some (.cells #[.int .i64 ho, .int .u64 hn2, .int .i64 hi, .int .u64 hm] 52)
  g : Grp wx w.heap.size (.slice A e.groups.length c) e.groups
  q : QAt wx B X qb R
  u : Upd w.heap.size (fun k => k = qb) w wx
/-- What an act comes to, said by its ways. -/
structure AcRes (R : RS) (k : Int) (contact name : ByteArray) (kept : Bool) (groups : List ByteArray) (hh : Half) (mm nn : Int) (Z : RS × Int × Int × Bool × Int) : Prop where
  none : mm = 0 → Z = (R, 0, 0, false, 0)
  full : mm ≠ 0 → (k = 11 ∨ k = 12) → kept = false → ¬ (R.kept : Int) < R.items → Z = (R, 0, 0, false, 8)
  done : mm ≠ 0 → ((k = 11 ∨ k = 12) → kept = true ∨ (R.kept : Int) < R.items) → ∀ kp, (kept || (k == 11 || k == 12)) = kp → Z = ((if kp = true then { (if k = 11 then { R with next := R.next + 1 } else R).set ⟨contact, kp, name, groups, hh⟩ with ver := R.ver + 1 } else (if k = 11 then { R with next := R.next + 1 } else R).set ⟨contact, kp, name, groups, hh⟩), mm, nn, kp, 0)
theorem acres {R : RS} {s : ByteArray} {k : Int} {contact name : ByteArray} {kept : Bool} {groups : List ByteArray} {h hh : Half} {mm nn : Int} (h0 : (localS s).2 = 0) (hk : 11 ≤ k ∧ k ≤ 14) (he : R.entry (localS s).1 = ⟨contact, kept, name, groups, h⟩) (hz : actZ h k (R.next + 1) = (hh, mm, nn)) : AcRes R k contact name kept groups hh mm nn (R.actAll s k) := by
  unfold RS.actAll RS.act
  rw [if_pos h0, if_pos hk, he]
  simp only [hz]
  refine ⟨fun h1 => by rw [if_pos h1]; rfl, fun h1 h2 h3 h4 => by rw [if_neg h1, if_pos ⟨h2, h3, h4⟩], fun h1 h2 kp hkp => ?_⟩
  rw [if_neg h1, if_neg (fun hc => by rcases h2 hc.1 with e | e; rw [e] at hc; exact absurd hc.2.1 (by decide); exact hc.2.2 e)]
  simp only [hkp]
  have hv : ∀ e, ((if k = 11 then { R with next := R.next + 1 } else R).set e).ver = R.ver := fun e => by rw [(RS.set_ver _ e).1]; split <;> rfl
  cases kp <;> simp [hv]

set_option maxRecDepth 100000 in
set_option maxHeartbeats 16000000 in
theorem q16act_any {w : World} {B qb : Nat} {X : Nat → Prop} {R : RS} (h : QAt w B X qb R) (hn : R.rows.length ≤ 1000000) (hfew : FewG R) (hX : ∀ k, X k → k < w.heap.size) (hB : B ≤ w.heap.size) (hv0 : 0 ≤ R.ver) (hv1 : R.ver < 18446744073709551615) (hn0 : 0 ≤ R.next) (hn1 : R.next < 18446744073709551615) (s : ByteArray) (k : Int) :
    Calls Tryz.prog 75 #[.pointer (some ⟨qb, 0, none⟩), .string s, .int .i64 k] w fun r w' =>
      r = .returned (.tuple #[.int .i64 (R.actAll s k).2.1, .int .u64 (R.actAll s k).2.2.1, .bool (R.actAll s k).2.2.2.1, .int .i64 (R.actAll s k).2.2.2.2]) ∧ QDone w w' B qb X (R.actAll s k).1 := by
  obtain ⟨⟨R', m', n', ch', e'⟩, hZ⟩ : ∃ Z, R.actAll s k = Z := ⟨_, rfl⟩
  rw [hZ]
  simp only
  have HQ := Lib.hid h
  have hqb := h.lt
  have hloc := fun W => reflocal_any s W
  obtain ⟨ec, hec⟩ : ∃ ec, (localS s).2 = ec := ⟨_, rfl⟩
  obtain ⟨x, hx⟩ : ∃ x, (localS s).1 = x := ⟨_, rfl⟩
  have HNF := Lib.hid (And.intro hn (And.intro hfew (And.intro hX (And.intro hB (And.intro hv0 hv1)))))
  have hwn : IntKind.u64.wrap (R.next + 1) = R.next + 1 := IntWalk.u64_in _ (by omega)
  have hwv : IntKind.u64.wrap (R.ver + 1) = R.ver + 1 := IntWalk.u64_in _ (by omega)
  rw [hec, hx] at hloc
  have HL := Lib.hid hloc
  clear h hn hfew hloc hX hB hv0 hv1
  by_cases hc : ec = 0
  · have q1 : (ec != 0) = false := by simp [hc]
    have q2 : (ec == 0) = true := by simp [hc]
    subst hc
    by_cases hk : 11 ≤ k ∧ k ≤ 14
    · have r1 : decide (k < 11) = false := by simp; omega
      have r2 : decide (14 < k) = false := by simp; omega
      obtain ⟨e, he⟩ : ∃ e, R.entry x = e := ⟨_, rfl⟩
      have hct := HQ.out.nm.entry x
      rw [he] at hct
      have HEE := Lib.hid he
      obtain ⟨contact, kept, name, groups, ⟨o, n, i, m⟩⟩ := e
      simp only at hct
      subst hct
      obtain ⟨ae, hca⟩ := q15act_z ⟨o, n, i, m⟩ k (R.next + 1)
      obtain ⟨Z, hZ2⟩ : ∃ Z, actZ ⟨o, n, i, m⟩ k (R.next + 1) = Z := ⟨_, rfl⟩
      obtain ⟨⟨ho, hn2, hi, hm⟩, mm, nn⟩ := Z
      have hres := acres hec hk (by rw [hx]; exact he) hZ2
      rw [hZ] at hres
      rw [hZ2] at hca
      simp only [Half.val] at hca
      have HCA := Lib.hid hca
      have HRES := Lib.hid hres
      have HK14 := Lib.hid hk
      clear hca hZ hZ2 hres hec hx he hk
      go_enter Tryz.func75, Tryz.ntmps75
      go_wp2_with fail
      refine (HL.out _).mono ?_
      rintro r w1 ⟨rfl, hb1⟩
      have H1 := Lib.hid hb1
      clear hb1 HL
      have hfx := HNF.out.2.1.entry HQ.out.nm contact
      have HE := Lib.hid (q16entry_any (HQ.out.below H1.out) contact HNF.out.1 hfx)
      clear hfx
      go_wp2_with fail
      refine HE.out.mono ?_
      rintro r w2 ⟨⟨A, c, rfl, hg⟩, hb2⟩
      have H2 := Lib.hid (And.intro (H1.out.trans (hb2.mono H1.out.size)) (hg.lower H1.out.size))
      have zs := hb2.size
      have zs1 := H1.out.size
      clear hb2 hg H1 HE
      rw [HEE.out] at H2 ⊢
      simp only [Ent.val] at H2 ⊢
      have B2 := blk_new w2 (.cells #[.string contact, .bool kept, .string name, .slice A groups.length c, .int .i64 o, .int .u64 n, .int .i64 i, .int .u64 m] 54)
      obtain ⟨y0, y1, y2, y3, y4, y5, y6, y7, g0, g1, g2, g3, g4, g5, g6, g7⟩ := cells8 B2
      have hbf := H2.out.1.alloc H2.out.1.size (.cells #[.string contact, .bool kept, .string name, .slice A groups.length c, .int .i64 o, .int .u64 n, .int .i64 i, .int .u64 m] 54)
      have hal : Below w2.heap.size w2 (w2.alloc (.cells #[.string contact, .bool kept, .string name, .slice A groups.length c, .int .i64 o, .int .u64 n, .int .i64 i, .int .u64 m] 54)) := (Below.refl _ _).alloc (Nat.le_refl _) _
      have hgf : Grp _ w.heap.size (.slice A groups.length c) groups := H2.out.2.below hal
      have zb := blk_lt B2
      obtain ⟨_, _, cn, _⟩ := (HQ.out.below hbf).ver_cell
      have zq := (HQ.out.below hbf).lt
      obtain ⟨wA, hwA⟩ : ∃ W, w2.alloc (.cells #[.string contact, .bool kept, .string name, .slice A groups.length c, .int .i64 o, .int .u64 n, .int .i64 i, .int .u64 m] 54) = W := ⟨_, rfl⟩
      rw [hwA] at hbf hgf B2 zb cn zq y0 y1 y2 y3 y4 y5 y6 y7
      have HB := Lib.hid (And.intro hbf (And.intro B2 hgf))
      have HWA := Lib.hid hwA
      clear H2 hal hbf hgf B2 g0 g1 g2 g3 g4 g5 g6 g7 hwA
      go_upto_region 7 with fail
      rw [HWA.out]
      clear HWA
      refine Reg.wp_region_puts (A := [[], [0], [], [], [3], [4, 3], [5, 4, 3], [6, 5, 4, 3], [7, 6, 5, 4, 3], [1, 0, 2, 8, 7, 6, 5, 4, 3], [9, 1, 0, 2, 8, 7, 6, 5, 4, 3], [10, 9, 1, 0, 2, 8, 7, 6, 5, 4, 3], [10, 9, 1, 0, 2, 8, 7, 6, 5, 4, 3], [10, 9, 1, 0, 2, 8, 7, 6, 5, 4, 3], [10, 9, 1, 0, 2, 8, 7, 6, 5, 4, 3], [], [15, 11, 10, 9, 1, 0, 2, 8, 7, 6, 5, 4, 3], [12, 10, 9, 1, 0, 2, 8, 7, 6, 5, 4, 3, 16, 15, 11], [13, 10, 9, 1, 0, 2, 8, 7, 6, 5, 4, 3, 17, 12, 16, 15, 11], [14, 10, 9, 1, 0, 2, 8, 7, 6, 5, 4, 3, 18, 13, 17, 12, 16, 15, 11]]) (effs := [9, 15, 16]) (N := 96)
        (val := fun ix r => match ix with | 0 => .pointer (some ⟨w2.heap.size, 4, none⟩) | 1 => .agg #[.int .i64 o, .int .u64 n, .int .i64 i, .int .u64 m] | 2 => .int .i64 k | 3 => .pointer (some ⟨qb, 0, none⟩) | 4 => .pointer (some ⟨qb, 0, none⟩) | 5 => .pointer (some ⟨qb, 0, none⟩) | 6 => .pointer (some ⟨qb, 3, none⟩) | 7 => .int .u64 R.next | 8 => .int .u64 (R.next + 1) | 10 => .tuple #[.agg #[.int .i64 ho, .int .u64 hn2, .int .i64 hi, .int .u64 hm], .int .i64 mm, .int .u64 nn, .int .i64 ae] | 11 => .agg #[.int .i64 ho, .int .u64 hn2, .int .i64 hi, .int .u64 hm] | 12 => .int .i64 mm | 13 => .int .u64 nn | 14 => .int .i64 ae | 17 => .int .i64 mm | 18 => .int .u64 nn | 19 => .int .i64 ae | _ => undef)
        (Stage := fun rs wx => AcSt wA wx (.tuple #[.agg #[.int .i64 ho, .int .u64 hn2, .int .i64 hi, .int .u64 hm], .int .i64 mm, .int .u64 nn, .int .i64 ae]) (.int .i64 ho) (.int .u64 hn2) (.int .i64 hi) (.int .u64 hm) rs)
        (fun rs => [(some 39, .pointer (some ⟨w2.heap.size, 4, none⟩)), (some 40, .agg #[.int .i64 o, .int .u64 n, .int .i64 i, .int .u64 m]), (some 41, .int .i64 k), (some 42, .pointer (some ⟨qb, 0, none⟩)), (some 43, .pointer (some ⟨qb, 0, none⟩)), (some 44, .pointer (some ⟨qb, 0, none⟩)), (some 45, .pointer (some ⟨qb, 3, none⟩)), (some 46, .int .u64 R.next), (some 47, .int .u64 (R.next + 1)), (some 48, (rs 9).getD undef), (some 38, .tuple #[.agg #[.int .i64 ho, .int .u64 hn2, .int .i64 hi, .int .u64 hm], .int .i64 mm, .int .u64 nn, .int .i64 ae]), (some 49, .agg #[.int .i64 ho, .int .u64 hn2, .int .i64 hi, .int .u64 hm]), (some 50, .int .i64 mm), (some 51, .int .u64 nn), (some 52, .int .i64 ae), (some 14, (rs 15).getD undef), (none, (rs 16).getD undef), (some 15, .int .i64 mm), (some 16, .int .u64 nn), (some 17, .int .i64 ae)])
        (by kernel_rfl) (by kernel_rfl) rfl (fun _ => rfl) ?h0 ?hob ?hend
      case hob =>
        intro ix hix
        match ix, hix with
        | 0, _ => exact Reg.Ob.pure rfl rfl rfl (fun rs => .pointer (some ⟨w2.heap.size, 4, none⟩)) (fun _ => rfl) (fun rs wx a hs hd hl hk => by
            have e12 : (a.tmps[12]?).getD undef = .pointer (some ⟨w2.heap.size, 0, none⟩) := hk 12 (by decide)
            go_simp)
        | 1, _ => exact Reg.Ob.pure rfl rfl rfl (fun rs => .agg #[.int .i64 o, .int .u64 n, .int .i64 i, .int .u64 m]) (fun _ => rfl) (fun rs wx a hs hd hl hk => by
            have e39 : (a.tmps[39]?).getD undef = .pointer (some ⟨w2.heap.size, 4, none⟩) := hk 39 (by decide)
            have c0 : wx.cell? ⟨w2.heap.size, 4, none⟩ = some (.int .i64 o) := (hs.below.cell (p := ⟨w2.heap.size, 4, none⟩) zb).trans y4
            have c1 : wx.cell? ⟨w2.heap.size, 5, none⟩ = some (.int .u64 n) := (hs.below.cell (p := ⟨w2.heap.size, 5, none⟩) zb).trans y5
            have c2 : wx.cell? ⟨w2.heap.size, 6, none⟩ = some (.int .i64 i) := (hs.below.cell (p := ⟨w2.heap.size, 6, none⟩) zb).trans y6
            have c3 : wx.cell? ⟨w2.heap.size, 7, none⟩ = some (.int .u64 m) := (hs.below.cell (p := ⟨w2.heap.size, 7, none⟩) zb).trans y7
            go_simp)
        | 2, _ => exact Reg.Ob.pure rfl rfl rfl (fun rs => .int .i64 k) (fun _ => rfl) (fun rs wx a hs hd hl hk => by
            have e2 : (a.tmps[2]?).getD undef = .int .i64 k := hk 2 (by decide)
            go_simp)
        | 3, _ => exact Reg.Ob.pure rfl rfl rfl (fun rs => .pointer (some ⟨qb, 0, none⟩)) (fun _ => rfl) (fun rs wx a hs hd hl hk => by
            have e0 : (a.tmps[0]?).getD undef = .pointer (some ⟨qb, 0, none⟩) := hk 0 (by decide)
            go_simp)
        | 4, _ => exact Reg.Ob.pure rfl rfl rfl (fun rs => .pointer (some ⟨qb, 0, none⟩)) (fun _ => rfl) (fun rs wx a hs hd hl hk => by
            have e42 : (a.tmps[42]?).getD undef = .pointer (some ⟨qb, 0, none⟩) := hk 42 (by decide)
            go_simp)
        | 5, _ => exact Reg.Ob.pure rfl rfl rfl (fun rs => .pointer (some ⟨qb, 0, none⟩)) (fun _ => rfl) (fun rs wx a hs hd hl hk => by
            have e43 : (a.tmps[43]?).getD undef = .pointer (some ⟨qb, 0, none⟩) := hk 43 (by decide)
            go_simp)
        | 6, _ => exact Reg.Ob.pure rfl rfl rfl (fun rs => .pointer (some ⟨qb, 3, none⟩)) (fun _ => rfl) (fun rs wx a hs hd hl hk => by
            have e44 : (a.tmps[44]?).getD undef = .pointer (some ⟨qb, 0, none⟩) := hk 44 (by decide)
            go_simp)
        | 7, _ => exact Reg.Ob.pure rfl rfl rfl (fun rs => .int .u64 R.next) (fun _ => rfl) (fun rs wx a hs hd hl hk => by
            have e45 : (a.tmps[45]?).getD undef = .pointer (some ⟨qb, 3, none⟩) := hk 45 (by decide)
            have c : wx.cell? ⟨qb, 3, none⟩ = some (.int .u64 R.next) := (hs.below.cell (p := ⟨qb, 3, none⟩) zq).trans cn
            go_simp)
        | 8, _ => exact Reg.Ob.pure rfl rfl rfl (fun rs => .int .u64 (R.next + 1)) (fun _ => rfl) (fun rs wx a hs hd hl hk => by
            have e46 : (a.tmps[46]?).getD undef = .int .u64 R.next := hk 46 (by decide)
            have hwn := hwn
            go_simp)
        | 9, _ =>
          refine Reg.Ob.eff rfl rfl rfl ?_
          intro rs wx a hs hd hn hl hk K hK
          have e40 : (a.tmps[40]?).getD undef = .agg #[.int .i64 o, .int .u64 n, .int .i64 i, .int .u64 m] := hk 40 (by decide)
          have e41 : (a.tmps[41]?).getD undef = .int .i64 k := hk 41 (by decide)
          have e47 : (a.tmps[47]?).getD undef = .int .u64 (R.next + 1) := hk 47 (by decide)
          have HS := Lib.hid hs
          have HKK := Lib.hid hK
          clear hs hn hd hl hk hK
          go_simp
          refine (HCA.out wx).mono ?_
          rintro e w5 ⟨rfl, hb⟩
          refine HKK.out _ _ ⟨HS.out.below.trans (hb.mono HS.out.below.size), fun u hu => ?_, fun u hu => ?_⟩
          · have h2 : some _ = some u := hu
            cases h2
            rfl
          · obtain ⟨b, e1, e2, z0, z1, z2, z3, e3, e4⟩ := HS.out.al u (by simpa [Reg.upd] using hu)
            exact ⟨b, e1, e2, z0, z1, z2, z3, blk_below e3 hb (blk_lt e3), fun h => e4 (by simpa [Reg.upd] using h)⟩
        | 10, _ => exact Reg.Ob.pure rfl rfl rfl (fun rs => .tuple #[.agg #[.int .i64 ho, .int .u64 hn2, .int .i64 hi, .int .u64 hm], .int .i64 mm, .int .u64 nn, .int .i64 ae]) (fun _ => rfl) (fun rs wx a hs hd hl hk => by
            have e48 : (a.tmps[48]?).getD undef = ((rs 9).getD undef) := hk 48 (by decide)
            obtain ⟨u, hu⟩ := hd 9 (by decide) (by decide)
            obtain rfl := hs.res u hu
            rw [hu] at e48
            simp only [Option.getD_some] at e48
            clear hs hd hl hk hu
            go_simp)
        | 11, _ => exact Reg.Ob.pure rfl rfl rfl (fun rs => .agg #[.int .i64 ho, .int .u64 hn2, .int .i64 hi, .int .u64 hm]) (fun _ => rfl) (fun rs wx a hs hd hl hk => by
            have e38 : (a.tmps[38]?).getD undef = .tuple #[.agg #[.int .i64 ho, .int .u64 hn2, .int .i64 hi, .int .u64 hm], .int .i64 mm, .int .u64 nn, .int .i64 ae] := hk 38 (by decide)
            go_simp)
        | 12, _ => exact Reg.Ob.pure rfl rfl rfl (fun rs => .int .i64 mm) (fun _ => rfl) (fun rs wx a hs hd hl hk => by
            have e38 : (a.tmps[38]?).getD undef = .tuple #[.agg #[.int .i64 ho, .int .u64 hn2, .int .i64 hi, .int .u64 hm], .int .i64 mm, .int .u64 nn, .int .i64 ae] := hk 38 (by decide)
            go_simp)
        | 13, _ => exact Reg.Ob.pure rfl rfl rfl (fun rs => .int .u64 nn) (fun _ => rfl) (fun rs wx a hs hd hl hk => by
            have e38 : (a.tmps[38]?).getD undef = .tuple #[.agg #[.int .i64 ho, .int .u64 hn2, .int .i64 hi, .int .u64 hm], .int .i64 mm, .int .u64 nn, .int .i64 ae] := hk 38 (by decide)
            go_simp)
        | 14, _ => exact Reg.Ob.pure rfl rfl rfl (fun rs => .int .i64 ae) (fun _ => rfl) (fun rs wx a hs hd hl hk => by
            have e38 : (a.tmps[38]?).getD undef = .tuple #[.agg #[.int .i64 ho, .int .u64 hn2, .int .i64 hi, .int .u64 hm], .int .i64 mm, .int .u64 nn, .int .i64 ae] := hk 38 (by decide)
            go_simp)
        | 15, _ =>
          refine Reg.Ob.eff rfl rfl rfl ?_
          intro rs wx a hs hd hn hl hk K hK
          have HS := Lib.hid hs
          have HL := Lib.hid hl
          have HKK := Lib.hid hK
          clear hs hn hd hl hk hK
          go_simp
          refine HKK.out _ _ ⟨HS.out.below.alloc HS.out.below.size _, fun u hu => HS.out.res u (by simpa [Reg.upd] using hu), fun u hu => ?_⟩
          have h2 : some (Value.pointer (some ⟨wx.heap.size, 0, none⟩)) = some u := hu
          cases h2
          exact ⟨_, rfl, HS.out.below.size, _, _, _, _, blk_new _ _, fun h => absurd (HL.out 16 (by decide)) (by simpa [Reg.upd] using h)⟩
        | 16, _ =>
          refine Reg.Ob.eff rfl rfl rfl ?_
          intro rs wx a hs hd hn hl hk K hK
          have e14 : (a.tmps[14]?).getD undef = ((rs 15).getD undef) := hk 14 (by decide)
          have e49 : (a.tmps[49]?).getD undef = .agg #[.int .i64 ho, .int .u64 hn2, .int .i64 hi, .int .u64 hm] := hk 49 (by decide)
          obtain ⟨u, hu⟩ := hd 15 (by decide) (by decide)
          obtain ⟨b, rfl, e2, z0, z1, z2, z3, e3, _⟩ := hs.al u hu
          rw [hu] at e14
          simp only [Option.getD_some] at e14
          obtain ⟨g0, g1, g2, g3, f0, f1, f2, f3⟩ := cells4 e3
          have HS := Lib.hid hs
          have HU := Lib.hid (And.intro hu (And.intro e2 e3))
          have HKK := Lib.hid hK
          clear hs hn hd hl hk hK hu e3
          go_simp
          obtain ⟨hu, e2, e3⟩ := HU.out
          refine HKK.out undef _ ⟨(((HS.out.below.setCell e2 _).setCell e2 _).setCell e2 _).setCell e2 _, fun u hu => HS.out.res u (by simpa [Reg.upd] using hu), fun u h => ?_⟩
          have : rs 15 = some u := by simpa [Reg.upd] using h
          rw [hu] at this
          cases this
          exact ⟨b, rfl, e2, _, _, _, _, blk_set4 e3 (.int .i64 ho) (.int .u64 hn2) (.int .i64 hi) (.int .u64 hm), fun _ => ⟨rfl, rfl, rfl, rfl⟩⟩
        | 17, _ => exact Reg.Ob.pure rfl rfl rfl (fun rs => .int .i64 mm) (fun _ => rfl) (fun rs wx a hs hd hl hk => by
            have e50 : (a.tmps[50]?).getD undef = .int .i64 mm := hk 50 (by decide)
            go_simp)
        | 18, _ => exact Reg.Ob.pure rfl rfl rfl (fun rs => .int .u64 nn) (fun _ => rfl) (fun rs wx a hs hd hl hk => by
            have e51 : (a.tmps[51]?).getD undef = .int .u64 nn := hk 51 (by decide)
            go_simp)
        | 19, _ => exact Reg.Ob.pure rfl rfl rfl (fun rs => .int .i64 ae) (fun _ => rfl) (fun rs wx a hs hd hl hk => by
            have e52 : (a.tmps[52]?).getD undef = .int .i64 ae := hk 52 (by decide)
            go_simp)
        | n + 20, h => exact absurd h (by simp <;> omega)
      case h0 =>
        exact ⟨(Below.refl _ _).drew, fun u hu => (by cases hu), fun u hu => (by cases hu)⟩
      case hend =>
        intro rs wx hs hd
        obtain ⟨u, hu⟩ := hd 15 (by decide) (by decide)
        obtain ⟨u16, hu16⟩ := hd 16 (by decide) (by decide)
        obtain ⟨b14, rfl, zb14, z0, z1, z2, z3, hb14, hz⟩ := hs.al u hu
        obtain ⟨rfl, rfl, rfl, rfl⟩ := hz (by rw [hu16]; simp)
        have HS := Lib.hid (And.intro hs.below hb14)
        simp only [List.foldl_cons, List.foldl_nil, Act.put, List.setIfInBounds_toArray, List.set_cons_zero, List.set_cons_succ]
        rw [hu]
        simp only [Option.getD_some]
        clear hs hd hu hu16 hz hb14 y0 y1 y2 y3 y4 y5 y6 y7 cn
        have C2 := blk_below HB.out.2.1 HS.out.1 (blk_lt HB.out.2.1)
        have C4 := HS.out.2
        have hb4 := HB.out.1.trans (HS.out.1.mono HB.out.1.size)
        have hg4 := HB.out.2.2.below HS.out.1
        have HD := Lib.hid (And.intro C2 (And.intro C4 (And.intro hg4 hb4)))
        clear C2 C4 hb4 hg4
        clear HS HB
        by_cases hm0 : mm = 0
        · have r3 : (mm == 0) = true := by simp [hm0]
          have hres := HRES.out.none hm0
          clear hm0
          obtain ⟨rfl, rfl, rfl, rfl, rfl⟩ : R' = R ∧ m' = 0 ∧ n' = 0 ∧ ch' = false ∧ e' = 0 := by simpa using hres
          go_wp2_with fail
          simp [bodyPost, results, Tryz.results75, go_sem]
          exact QDone.same HQ.out HD.out.2.2.2
        · have r3 : (mm == 0) = false := by simp [hm0]
          have HM0 := Lib.hid hm0
          clear hm0
          obtain ⟨kp, hkp⟩ : ∃ kp, (kept || (k == 11 || k == 12)) = kp := ⟨_, rfl⟩
          have HKP := Lib.hid hkp
          clear hkp
          have hqm := (HQ.out.more (X' := (fun k => X k ∨ k = w2.heap.size)) (fun k hk => by rcases hk with hk | hk; exact .inl hk; exact .inr (.inr (by omega)))).below HD.out.2.2.2
          have HQM := Lib.hid hqm
          clear hqm
          go_upto_if 56 with fail
          by_cases hfull : (k = 11 ∨ k = 12) ∧ kept = false ∧ ¬ (R.kept : Int) < R.items
          · obtain ⟨hk1, rfl, hfu⟩ := hfull
            have hres := HRES.out.full HM0.out hk1 rfl hfu
            have hfl : decide (R.items ≤ ((R.kept : Nat) : Int)) = true := by simp; omega
            have r4 : decide (k ≤ 12) = true := by simp; omega
            have r4p : k ≤ 12 := by omega
            have HFU := Lib.hid (q16full_any (HQ.out.below HD.out.2.2.2) HNF.out.1)
            rw [hfl] at HFU
            obtain ⟨y0, y1, y2, y3, y4, y5, y6, y7, g0, g1, g2, g3, g4, g5, g6, g7⟩ := cells8 HD.out.1
            clear hk1 hfu
            have HRS := Lib.hid hres
            clear hres
            go_wp2_with fail
            refine HFU.out.mono ?_
            rintro r w4 ⟨rfl, hw4⟩
            obtain rfl := hw4.symm
            clear HFU hfl y0 g0 y1 g1 y2 g2 y3 g3 y4 g4 y5 g5 y6 g6 y7 g7
            obtain ⟨rfl, rfl, rfl, rfl, rfl⟩ : R' = R ∧ m' = 0 ∧ n' = 0 ∧ ch' = false ∧ e' = 8 := by simpa using HRS.out
            go_wp2_with fail
            simp [bodyPost, results, Tryz.results75, go_sem]
            exact QDone.same HQ.out HD.out.2.2.2
          · have hres := HRES.out.done HM0.out (fun h => by
              cases kept with
              | true => exact .inl rfl
              | false => right; by_cases hfu : (R.kept : Int) < R.items; exact hfu; exact absurd ⟨h, rfl, hfu⟩ hfull) kp HKP.out
            have HRS := Lib.hid hres
            have HFL := Lib.hid hfull
            clear hres hfull HRES
            go_cut [] (fun wx => AcMid w wx B qb w2.heap.size b14 (fun k => X k ∨ k = w2.heap.size) R (⟨contact, kp, name, groups, ⟨o, n, i, m⟩⟩ : Ent) A c ho hn2 hi hm)
            case first =>
              by_cases hk1 : k = 11 ∨ k = 12
              · have r4 : decide (k ≤ 12) = true := by simp; omega
                have r4p : k ≤ 12 := by omega
                have hkt : kp = true := by rw [← HKP.out]; rcases hk1 with e | e <;> simp [e]
                subst hkt
                obtain ⟨y0, y1, y2, y3, y4, y5, y6, y7, g0, g1, g2, g3, g4, g5, g6, g7⟩ := cells8 HD.out.1
                have C2 := blk_set_same HD.out.1 1 (.bool true)
                simp only [List.setIfInBounds_toArray, List.set_cons_zero, List.set_cons_succ] at C2
                have C4 := blk_set_other HD.out.2.1 (a := (⟨w2.heap.size, 1, none⟩ : Addr)) (.bool true) (by show b14 ≠ w2.heap.size; omega)
                have hg5 := HD.out.2.2.1.setT HD.out.1 (by decide) 1 (.bool true)
                have hb5 := HD.out.2.2.2.setCell (show w.heap.size ≤ (⟨w2.heap.size, 1, none⟩ : Addr).block by show w.heap.size ≤ w2.heap.size; omega) (.bool true)
                have hq5 := HQM.out.upd (ks := fun k => k = w2.heap.size) (Upd.setCell (ks := fun k => k = w2.heap.size) (Upd.refl wx.heap.size _ wx) (a := (⟨w2.heap.size, 1, none⟩ : Addr)) (.inl rfl) (.bool true)) (Nat.le_refl _) (by omega) (fun k cs T e _ => .inl (.inr e))
                have HMID := Lib.hid (show AcMid w (wx.setCell ⟨w2.heap.size, 1, none⟩ (.bool true)) B qb w2.heap.size b14 (fun k => X k ∨ k = w2.heap.size) R (⟨contact, true, name, groups, ⟨o, n, i, m⟩⟩ : Ent) A c ho hn2 hi hm from ⟨C2, C4, hg5, hq5, Upd.of_below hb5 (Nat.le_refl _)⟩)
                clear C2 C4 hg5 hb5 hq5
                cases kept with
                | true =>
                  clear hk1
                  go_wp2_with fail
                  go_meet
                  exact HMID.out
                | false =>
                  have hfl : decide (R.items ≤ ((R.kept : Nat) : Int)) = false := by
                    have := HFL.out
                    simp only [not_and, Decidable.not_not] at this
                    have := this hk1 trivial
                    simp; omega
                  have HFU := Lib.hid (q16full_any (HQ.out.below HD.out.2.2.2) HNF.out.1)
                  rw [hfl] at HFU
                  clear hk1 hfl
                  go_wp2_with fail
                  refine HFU.out.mono ?_
                  rintro r w4 ⟨rfl, hw4⟩
                  obtain rfl := hw4.symm
                  clear HFU
                  go_wp2_with fail
                  go_meet
                  exact HMID.out
              · have r4 : decide (k ≤ 12) = false := by have := HK14.out; simp; omega
                have r4p : ¬ k ≤ 12 := by have := HK14.out; omega
                have hkt : kp = kept := by
                  rw [← HKP.out, show (k == 11) = false by simp; omega, show (k == 12) = false by simp; omega]
                  simp
                subst hkt
                have HMID := Lib.hid (show AcMid w wx B qb w2.heap.size b14 (fun k => X k ∨ k = w2.heap.size) R (⟨contact, kp, name, groups, ⟨o, n, i, m⟩⟩ : Ent) A c ho hn2 hi hm from ⟨HD.out.1, HD.out.2.1, HD.out.2.2.1, HQM.out, Upd.of_below HD.out.2.2.2 (Nat.le_refl _)⟩)
                clear hk1
                go_wp2_with fail
                go_meet
                exact HMID.out
            case rest =>
              have HMID := Lib.hid hcut
              clear hcut HD HQM
              go_upto_if 66 with fail
              go_cut [] (fun wx => AcMid w wx B qb w2.heap.size b14 (fun k => X k ∨ k = w2.heap.size) (if k = 11 then { R with next := R.next + 1 } else R) (⟨contact, kp, name, groups, ⟨o, n, i, m⟩⟩ : Ent) A c ho hn2 hi hm)
              case first =>
                obtain ⟨C2, C4, hg6, hq6, hu6⟩ := HMID.out
                by_cases hk1 : k = 11
                · have r5 : (k == 11) = true := by simp [hk1]
                  obtain ⟨_, _, cn, cnf, _⟩ := hq6.ver_cell
                  obtain ⟨vq, hvq, _⟩ := hq6.box
                  have C2' := blk_set_other C2 (a := (⟨qb, 3, none⟩ : Addr)) (.int .u64 (R.next + 1)) (by show w2.heap.size ≠ qb; omega)
                  have C4' := blk_set_other C4 (a := (⟨qb, 3, none⟩ : Addr)) (.int .u64 (R.next + 1)) (by show b14 ≠ qb; omega)
                  have hg6' := hg6.setT hvq (by decide) 3 (.int .u64 (R.next + 1))
                  have hq6' := hq6.setNext (R.next + 1)
                  have hu6' := Upd.setCell (ks := fun k => k = qb) hu6 (a := (⟨qb, 3, none⟩ : Addr)) (.inl rfl) (.int .u64 (R.next + 1))
                  have HM2 := Lib.hid (show AcMid w _ B qb w2.heap.size b14 (fun k => X k ∨ k = w2.heap.size) (if k = 11 then { R with next := R.next + 1 } else R) (⟨contact, kp, name, groups, ⟨o, n, i, m⟩⟩ : Ent) A c ho hn2 hi hm from ⟨C2', C4', hg6', by rw [if_pos hk1]; exact hq6', hu6'⟩)
                  clear C2 C4 hg6 hq6 hu6 C2' C4' hg6' hq6' hu6' hvq hk1
                  go_wp2_with fail
                  go_meet
                  exact HM2.out
                · have r5 : (k == 11) = false := by simp [hk1]
                  have HM2 := Lib.hid (show AcMid w wc B qb w2.heap.size b14 (fun k => X k ∨ k = w2.heap.size) (if k = 11 then { R with next := R.next + 1 } else R) (⟨contact, kp, name, groups, ⟨o, n, i, m⟩⟩ : Ent) A c ho hn2 hi hm from ⟨C2, C4, hg6, by rw [if_neg hk1]; exact hq6, hu6⟩)
                  clear C2 C4 hg6 hq6 hu6 hk1
                  go_wp2_with fail
                  go_meet
                  exact HM2.out
              case rest =>
                obtain ⟨C2, C4, hg6, hq6, hu6⟩ := hcut
                clear HMID
                have zz2 : w2.heap.size < wc.heap.size := blk_lt C2
                obtain ⟨Rn, hRn⟩ : ∃ Q, (if k = 11 then { R with next := R.next + 1 } else R) = Q := ⟨_, rfl⟩
                have hRv : Rn.ver = R.ver ∧ Rn.rows = R.rows := by rw [← hRn]; split <;> exact ⟨rfl, rfl⟩
                rw [hRn] at hq6 HRS
                have HRN := Lib.hid hRv
                clear hRn hRv
                go_upto_region 16 with fail
                obtain ⟨y0, y1, y2, y3, y4, y5, y6, y7, g0, g1, g2, g3, g4, g5, g6, g7⟩ := cells8 C2
                obtain ⟨z0, z1, z2, z3, _⟩ := cells4 C4
                have F2 := blk_set_same (blk_set_same (blk_set_same (blk_set_same C2 4 (.int .i64 ho)) 5 (.int .u64 hn2)) 6 (.int .i64 hi)) 7 (.int .u64 hm)
                simp only [List.setIfInBounds_toArray, List.set_cons_zero, List.set_cons_succ] at F2
                have hgF := half_grp hg6 C2 (.int .i64 ho) (.int .u64 hn2) (.int .i64 hi) (.int .u64 hm)
                have hqF := hq6.half (c := w2.heap.size) (.inr rfl) (by omega) (.int .i64 ho) (.int .u64 hn2) (.int .i64 hi) (.int .u64 hm)
                have huF := half_upd hu6 (c := w2.heap.size) (by omega) (.int .i64 ho) (.int .u64 hn2) (.int .i64 hi) (.int .u64 hm)
                have HF := Lib.hid (And.intro F2 (And.intro hgF (And.intro hqF huF)))
                clear C2 C4 hg6 hq6 hu6 F2 hgF hqF huF
                go_upto_region 17 with fail
                clear y0 g0 y1 g1 y2 g2 y3 g3 y4 g4 y5 g5 y6 g6 y7 g7 z0 z1 z2 z3
                generalize ((((wc.setCell ⟨w2.heap.size, 4, none⟩ (.int .i64 ho)).setCell ⟨w2.heap.size, 5, none⟩ (.int .u64 hn2)).setCell ⟨w2.heap.size, 6, none⟩ (.int .i64 hi)).setCell ⟨w2.heap.size, 7, none⟩ (.int .u64 hm)) = w7 at *
                obtain ⟨y0, y1, y2, y3, y4, y5, y6, y7, g0, g1, g2, g3, g4, g5, g6, g7⟩ := cells8 HF.out.1
                have zz7 : w2.heap.size < w7.heap.size := blk_lt HF.out.1
                have HC := Lib.hid (q16set_any (R := Rn) HF.out.2.2.1 (⟨contact, kp, name, groups, ⟨ho, hn2, hi, hm⟩⟩ : Ent) (.slice A groups.length c) ⟨HF.out.2.1.lower HNF.out.2.2.2.1, fun hne k e hk => by
                  rcases hk with hk | hk
                  · have := HNF.out.2.2.1 k hk
                    have := ((HF.out.2.1 : Grp _ w.heap.size _ _).seq hne).lt k e
                    omega
                  · obtain ⟨cur, hc⟩ := (HF.out.2.1.seq hne).block k e
                    rw [hk, HF.out.1] at hc
                    simp at hc⟩ (fun k hk => by
                  rcases hk with hk | hk
                  · have := HNF.out.2.2.1 k hk; have := HF.out.2.2.2.size; omega
                  · omega) (by rw [HRN.out.2]; exact HNF.out.1) (Nat.le_trans HNF.out.2.2.2.1 HF.out.2.2.2.size))
                go_wp2_with fail
                refine HC.out.mono ?_
                rintro r w8 ⟨rfl, hq8, hu8⟩
                have G2 := blk_upd HF.out.1 hu8 (blk_lt HF.out.1) (by omega)
                have hu9 := HF.out.2.2.2.trans hu8 HF.out.2.2.2.size
                have hv0 := (RS.set_ver Rn (⟨contact, kp, name, groups, ⟨ho, hn2, hi, hm⟩⟩ : Ent)).1.trans HRN.out.1
                clear HC hu8 y0 g0 y1 g1 y2 g2 y3 g3 y4 g4 y5 g5 y6 g6 y7 g7
                cases kp with
                | true =>
                  have G1 : w8.cell? ⟨w2.heap.size, 1, none⟩ = some (.bool true) := blk_cell G2 1
                  obtain ⟨cv, cf, _⟩ := hq8.ver_cell
                  rw [hv0] at cv
                  have J1 := blk_set_other G2 (a := (⟨qb, 2, none⟩ : Addr)) (.int .u64 (R.ver + 1)) (by show w2.heap.size ≠ qb; omega)
                  have hq10 := hq8.setVer (R.ver + 1)
                  have hu10 := Upd.setCell (ks := fun k => k = qb) hu9 (a := (⟨qb, 2, none⟩ : Addr)) (.inl rfl) (.int .u64 (R.ver + 1))
                  have HJ := Lib.hid (And.intro J1 (And.intro hq10 hu10))
                  clear J1 hq10 hu10 hq8 hu9 G2 hv0
                  go_upto_region 20 with fail
                  clear cv cf hwv hwn G1
                  generalize w8.setCell ⟨qb, 2, none⟩ (.int .u64 (R.ver + 1)) = w9 at *
                  have G1 : w9.cell? ⟨w2.heap.size, 1, none⟩ = some (.bool true) := blk_cell HJ.out.1 1
                  obtain ⟨rfl, rfl, rfl, rfl, rfl⟩ : R' = _ ∧ m' = mm ∧ n' = nn ∧ ch' = true ∧ e' = 0 := by simpa using HRS.out
                  go_quiet (fail)
                  go_wp2_with fail
                  simp [bodyPost, results, Tryz.results75, go_sem]
                  exact ⟨(HJ.out.2.1.below (below_drewNs _ _)).more (fun k hk => .inl (.inl hk)), HJ.out.2.2.trans (Upd.of_below (below_drewNs _ _) (Nat.le_refl _)) HJ.out.2.2.size⟩
                | false =>
                  have G1 : w8.cell? ⟨w2.heap.size, 1, none⟩ = some (.bool false) := blk_cell G2 1
                  have HJ := Lib.hid (And.intro hq8 hu9)
                  clear hq8 hu9 G2 hv0
                  go_upto_region 20 with fail
                  obtain ⟨rfl, rfl, rfl, rfl, rfl⟩ : R' = _ ∧ m' = mm ∧ n' = nn ∧ ch' = false ∧ e' = 0 := by simpa using HRS.out
                  go_quiet (fail)
                  go_wp2_with fail
                  simp [bodyPost, results, Tryz.results75, go_sem]
                  exact ⟨(HJ.out.1.below (below_drewNs _ _)).more (fun k hk => .inl (.inl hk)), HJ.out.2.trans (Upd.of_below (below_drewNs _ _) (Nat.le_refl _)) HJ.out.2.size⟩
    · by_cases hk1 : k < 11
      · have r1 : decide (k < 11) = true := by simpa using hk1
        obtain ⟨rfl, rfl, rfl, rfl, rfl⟩ : R' = R ∧ m' = 0 ∧ n' = 0 ∧ ch' = false ∧ e' = 1 := by
          have := hZ
          unfold RS.actAll RS.act at this
          rw [if_pos hec, if_neg hk] at this
          simpa [eq_comm] using this
        clear hZ hec hx
        clear hk hk1
        go_enter Tryz.func75, Tryz.ntmps75
        go_wp2_with fail
        refine (HL.out _).mono ?_
        rintro r w1 ⟨rfl, hb1⟩
        have H1 := Lib.hid hb1
        clear hb1 HL
        go_wp2_with fail
        simp [bodyPost, results, Tryz.results75, go_sem]
        exact QDone.same HQ.out H1.out
      · have r1 : decide (k < 11) = false := by simpa using hk1
        have r2 : decide (14 < k) = true := by simp; omega
        obtain ⟨rfl, rfl, rfl, rfl, rfl⟩ : R' = R ∧ m' = 0 ∧ n' = 0 ∧ ch' = false ∧ e' = 1 := by
          have := hZ
          unfold RS.actAll RS.act at this
          rw [if_pos hec, if_neg hk] at this
          simpa [eq_comm] using this
        clear hZ hec hx
        clear hk hk1
        go_enter Tryz.func75, Tryz.ntmps75
        go_wp2_with fail
        refine (HL.out _).mono ?_
        rintro r w1 ⟨rfl, hb1⟩
        have H1 := Lib.hid hb1
        clear hb1 HL
        go_wp2_with fail
        simp [bodyPost, results, Tryz.results75, go_sem]
        exact QDone.same HQ.out H1.out
  · have q1 : (ec != 0) = true := by simp [hc]
    have q2 : (ec == 0) = false := by simp [hc]
    obtain ⟨rfl, rfl, rfl, rfl, rfl⟩ : R' = R ∧ m' = 0 ∧ n' = 0 ∧ ch' = false ∧ e' = ec := by
      have := hZ
      unfold RS.actAll RS.act at this
      rw [if_neg (by rw [hec]; exact hc), hec] at this
      simpa [eq_comm] using this
    clear hZ hec hx
    clear hc
    go_enter Tryz.func75, Tryz.ntmps75
    go_wp2_with fail
    refine (HL.out _).mono ?_
    rintro r w1 ⟨rfl, hb1⟩
    have H1 := Lib.hid hb1
    clear hb1 HL
    go_wp2_with fail
    simp [bodyPost, results, Tryz.results75, go_sem]
    exact QDone.same HQ.out H1.out

end Go.Proofs.YthbjcihdlhkboaaGreatDoor
