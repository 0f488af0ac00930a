/- The closure of Put. Put, as a whole. Drop. -/
import Derived.Test.YthbjcihdlhkboaaGreatDoorQ18
import Derived.Test.YthbjcihdlhkboaaGreatDoorQ19
namespace Go.Proofs.YthbjcihdlhkboaaGreatDoor
set_option linter.unusedSimpArgs false
set_option linter.unusedVariables false
open Go.RowKit Go.Maps Go.Shelf Go.Lib

abbrev entC (e : Ent) (g : Value) : Obj := .cells #[.string e.contact, .bool e.kept, .string e.name, g, .int .i64 e.half.o, .int .u64 e.half.n, .int .i64 e.half.i, .int .u64 e.half.m] 54

/-- The variables that the closure of Put has caught. -/
structure PutBox (W : World) (g rb : Nat) (s l : ByteArray) (v : Value) (x : Ent) (xg : Value) : Prop where
  b0 : W.heap[g]? = some (.cells #[.pointer (some ⟨rb, 0, none⟩)] 42)
  b1 : W.heap[g + 1]? = some (.cells #[.string s] 9)
  b2 : W.heap[g + 2]? = some (.cells #[.string l] 9)
  b3 : W.heap[g + 3]? = some (.cells #[v] 32)
  b4 : W.heap[g + 4]? = some (entC x xg)
abbrev putCaps (g : Nat) : Array Value := #[.pointer (some ⟨g + 1, 0, none⟩), .pointer (some ⟨g + 2, 0, none⟩), .pointer (some ⟨g + 3, 0, none⟩), .pointer (some ⟨g, 0, none⟩), .pointer (some ⟨g + 4, 0, none⟩)]
theorem PutBox.below {W W' : World} {g rb : Nat} {s l : ByteArray} {v : Value} {x : Ent} {xg : Value} (h : PutBox W g rb s l v x xg) (hb : Below W.heap.size W W') : PutBox W' g rb s l v x xg :=
  ⟨blk_below h.b0 hb (blk_lt h.b0), blk_below h.b1 hb (blk_lt h.b1), blk_below h.b2 hb (blk_lt h.b2), blk_below h.b3 hb (blk_lt h.b3), blk_below h.b4 hb (blk_lt h.b4)⟩
theorem PutBox.upd {W W' : World} {g rb : Nat} {s l : ByteArray} {v : Value} {x : Ent} {xg : Value} (h : PutBox W g rb s l v x xg) {C : Nat} {ks : Nat → Prop} (hu : Upd C ks W W') (hC : W.heap.size ≤ C) (hk : ∀ j, j < 5 → ¬ ks (g + j)) : PutBox W' g rb s l v x xg :=
  ⟨blk_upd h.b0 hu (by have := blk_lt h.b0; omega) (hk 0 (by omega)), blk_upd h.b1 hu (by have := blk_lt h.b1; omega) (hk 1 (by omega)), blk_upd h.b2 hu (by have := blk_lt h.b2; omega) (hk 2 (by omega)), blk_upd h.b3 hu (by have := blk_lt h.b3; omega) (hk 3 (by omega)), blk_upd h.b4 hu (by have := blk_lt h.b4; omega) (hk 4 (by omega))⟩

/-- What Put's closure leaves where it does not give up. -/
structure PutDone (W w' : World) (B rb mb n g : Nat) (R : RS) (e : Ent) : Prop where
  ro : ∃ n' D', n' ≤ n + 1 ∧ RoAt w' B rb mb n' D' R
  upd : Upd W.heap.size (fun k => k = rb ∨ k = mb ∨ k = g + 4) W w'
  b4 : ∃ A c, w'.heap[g + 4]? = some (entC e (.slice A e.groups.length c)) ∧ Grp w' W.heap.size (.slice A e.groups.length c) e.groups
def PutPost (W : World) (B rb mb n g : Nat) (R : RS) (e : Ent) (c : Int) (r : Ending) (w' : World) : Prop :=
  (c ≠ 0 ∧ r = .panicked [{ v := rfailsV c, recovered := false }] ∧ Below W.heap.size W w') ∨ (c = 0 ∧ r = .returned (.tuple #[]) ∧ PutDone W w' B rb mb n g R e)

theorem Upd.cell {C b : Nat} {ks : Nat → Prop} {w w' : World} (h : Upd C ks w w') (hb : b < C) (hn : ¬ ks b) {j : Nat} : w'.cell? ⟨b, j, none⟩ = w.cell? ⟨b, j, none⟩ := by
  simp only [World.cell?, h.block b hb hn]

theorem Upd.comp {C C' : Nat} {ks ks' : Nat → Prop} {w w' w'' : World} (h : Upd C ks w w') (h' : Upd C' ks' w' w'') (hC : C ≤ C') (hk : ∀ k, k < C → ks' k → ks k) : Upd C ks w w'' :=
  ⟨h'.os.trans h.os, h'.tape.trans h.tape, h'.output.trans h.output, Nat.le_trans h.size h'.size, fun k hlt hn => (h'.block k (by omega) (fun e => hn (hk k hlt e))).trans (h.block k hlt hn)⟩

/-- Put's drawn region: the box of the entry at b, whose three fields are written. -/
structure PutStage (W w4 wx : World) (b : Nat) (e : Ent) (eg : Value) (l : ByteArray) (gs : List ByteArray) (rs : Nat → Option Value) : Prop where
  upd : Upd w4.heap.size (fun k => k = b) w4 wx
  box : wx.heap[b]? = some (.cells #[.string e.contact, (match rs 4 with | none => .bool e.kept | some _ => .bool true), (match rs 6 with | none => .string e.name | some _ => .string l), (match rs 8 with | none => eg | some _ => (rs 2).getD undef), .int .i64 e.half.o, .int .u64 e.half.n, .int .i64 e.half.i, .int .u64 e.half.m] 54)
  res : ∀ u, rs 2 = some u → ∃ A c, u = .slice A (sortG gs).length c ∧ Seq wx W.heap.size 9 1 u (sortG gs).length (flatS (sortG gs))

theorem sortG_le (gs : List ByteArray) : (sortG gs).length ≤ gs.length := by
  unfold sortG
  rw [List.length_map]
  exact Nat.le_trans (compact_le _) (by simp)
theorem grp_of_seq {w : World} {B : Nat} {v : Value} {gs : List ByteArray} (h : Seq w B 9 1 v gs.length (flatS gs)) : Grp w B v gs := by
  by_cases h0 : gs = []
  · subst h0
    obtain ⟨A, c, rfl⟩ := h.shape
    exact .inl ⟨rfl, A, c, rfl⟩
  · exact .inr ⟨h0, h⟩

set_option maxRecDepth 100000 in
set_option maxHeartbeats 16000000 in
theorem put1_do {W : World} {B rb mb n : Nat} {D : DataW Value} {R : RS} (h : RoAt W B rb mb n D R) (hT : Tabs W) (g : Nat) (s l : ByteArray) (v : Value) (gs : List ByteArray) (hs : s.size ≤ 9223372036854775807) (hl : l.size ≤ 9223372036854775807) (hv : Strs W v gs) (hgl : gs.length ≤ 1000000) (hgs : ∀ g ∈ gs, g.size ≤ 9223372036854775807)
    (hx : PutBox W g rb s l v Ent.zero (.slice none 0 0)) (hn : n ≤ 1000000) (hB : B ≤ W.heap.size) (hg : rb < g ∧ mb < g) (hv0 : 0 ≤ R.ver) (hv1 : R.ver < 18446744073709551615)
    (hE : (localS s).2 = 0) (hw : wordsE l gs = 0) (hr : ¬ ((R.entry (localS s).1).kept = false ∧ ¬ (R.kept : Int) < R.items)) :
    Calls Tryz.prog 59 (putCaps g) W fun e w' => e = .returned (.tuple #[]) ∧ PutDone W w' B rb mb n g { R.set (R.putE s l gs) with ver := R.ver + 1 } (R.putE s l gs) := by
  obtain ⟨VA, vc, rfl⟩ : ∃ A c, v = .slice A gs.length c := let ⟨⟨A, cap, h, _⟩, _⟩ := hv; ⟨A, cap, h⟩
  have hcs := localS_le s
  have C1 := Lib.hid (rlocal_ok s W hT hs hE)
  obtain ⟨x, hxx⟩ : ∃ x, (localS s).1 = x := ⟨_, rfl⟩
  have hpe : R.putE s l gs = { R.entry x with kept := true, name := l, groups := sortG gs } := by unfold RS.putE; rw [hxx]
  rw [hxx] at C1 hr hcs
  have C2 := Lib.hid (fun W' (hW : Below W.heap.size W W') => words_any l _ gs W' (hT.later hW) hl (hv.below hW) hgs)
  rw [hw] at C2
  have hsm := entry_small h x (by unfold maxLen; omega)
  obtain ⟨it, hit⟩ : ∃ it, R.entry x = it := ⟨_, rfl⟩
  have C3 := Lib.hid (fun W' (hW : Below W.heap.size W W') => rentry_any (h.below hW) x (by unfold maxLen; omega))
  rw [hit] at hpe hr hsm C3
  have c0 : W.cell? ⟨g, 0, none⟩ = some (.pointer (some ⟨rb, 0, none⟩)) := blk_cell hx.b0 0
  have c1 : W.cell? ⟨g + 1, 0, none⟩ = some (.string s) := blk_cell hx.b1 0
  have H := Lib.hid (And.intro h (And.intro hT (And.intro hx (And.intro hv (And.intro hgl hgs)))))
  have HP := Lib.hid (And.intro hpe (And.intro hsm (And.intro hr (And.intro hit hcs))))
  clear h hT hx hE hw hr hsm hpe hit hcs hxx hv hgl hgs
  go_enter Tryz.func59, Tryz.ntmps59
  go_wp2_with fail
  refine C1.out.mono ?_
  rintro e w1 ⟨rfl, hb1⟩
  have hx1 := H.out.2.2.1.below hb1
  have d1 : w1.cell? ⟨g + 2, 0, none⟩ = some (.string l) := blk_cell hx1.b2 0
  have d2 : w1.cell? ⟨g + 3, 0, none⟩ = some (.slice VA gs.length vc) := blk_cell hx1.b3 0
  have HB1 := Lib.hid hb1
  clear hb1 hx1 c0 c1 C1
  go_wp2_with fail
  refine (C2.out w1 HB1.out).mono ?_
  rintro e w2 ⟨he, hb2⟩
  obtain rfl : e = .returned (.tuple #[]) := by simpa [WordsEnd] using he
  have HB2 := Lib.hid (HB1.out.trans (hb2.mono HB1.out.size))
  have hx2 := H.out.2.2.1.below HB2.out
  have c0 : w2.cell? ⟨g, 0, none⟩ = some (.pointer (some ⟨rb, 0, none⟩)) := blk_cell hx2.b0 0
  clear he hb2 HB1 C2 hx2 d1 d2
  go_wp2_with fail
  refine (C3.out w2 HB2.out).mono ?_
  rintro e w3 ⟨⟨A3, a3, rfl, hg3⟩, hb3⟩
  have hb3' := HB2.out.trans (hb3.mono HB2.out.size)
  have hx3 := (H.out.2.2.1.below hb3').below ((Below.refl _ _).alloc (Nat.le_refl _) (entC it (.slice A3 it.groups.length a3)))
  have hro3 := (H.out.1.below hb3').below ((Below.refl _ _).alloc (Nat.le_refl _) (entC it (.slice A3 it.groups.length a3)))
  have hbox := blk_new w3 (entC it (.slice A3 it.groups.length a3))
  have hb4 := hb3'.alloc hb3'.size (entC it (.slice A3 it.groups.length a3))
  have hz3 := HB2.out.size
  have hz4 := hb3.size
  have C4 : Calls Tryz.prog 63 #[.pointer (some ⟨rb, 0, none⟩), it.val (.slice A3 it.groups.length a3)] (w3.alloc (entC it (.slice A3 it.groups.length a3))) fun r w' => r = .returned (.tuple #[]) ∧ Below (w3.alloc (entC it (.slice A3 it.groups.length a3))).heap.size (w3.alloc (entC it (.slice A3 it.groups.length a3))) w' := by
    cases hk : it.kept with
    | true => exact room_kept hro3 it _ hk
    | false =>
      refine room_new hro3 it _ hk ?_
      have := HP.out.2.2.1
      rw [hk] at this
      simpa using this
  obtain ⟨contact, kept, name, groups, ⟨o, hn2, i, m⟩⟩ := it
  simp only at hg3 hx3 hro3 hbox hb4 C4
  have c0 : (w3.alloc (.cells #[.string contact, .bool kept, .string name, .slice A3 groups.length a3, .int .i64 o, .int .u64 hn2, .int .i64 i, .int .u64 m] 54)).cell? ⟨g, 0, none⟩ = some (.pointer (some ⟨rb, 0, none⟩)) := blk_cell hx3.b0 0
  have HB4 := Lib.hid (And.intro hb4 (And.intro hbox (And.intro hx3 (And.intro hro3 (And.intro hg3 (And.intro hz3 (Nat.le_trans hz3 hz4)))))))
  have HC4 := Lib.hid C4
  clear hb3 hb3' hx3 hro3 hbox hb4 C4 hg3 hz3 hz4 C3 HB2
  simp only [Ent.val]
  go_wp2_with fail
  refine HC4.out.mono ?_
  rintro e w4 ⟨rfl, hb5⟩
  obtain ⟨hb4, hbox, hx3, hro3, hg3, hz2, hz3⟩ := HB4.out
  have hbW : Below W.heap.size W w4 := hb4.trans (hb5.mono hb4.size)
  have hx4 := hx3.below hb5
  have hro4 := hro3.below hb5
  have hbox4 := blk_below hbox hb5 (blk_lt hbox)
  have hz4 : w3.heap.size < w4.heap.size := Nat.lt_of_lt_of_le (blk_lt hbox) hb5.size
  have hgr4 := ((hg3.lower hz2).below ((Below.refl _ _).alloc (Nat.le_refl _) (entC ⟨contact, kept, name, groups, ⟨o, hn2, i, m⟩⟩ (.slice A3 groups.length a3)))).below hb5
  generalize w3.heap.size = b at *
  have H4 := Lib.hid (And.intro hbW (And.intro hx4 (And.intro hro4 (And.intro hbox4 (And.intro hgr4 (And.intro hz3 hz4))))))
  have c1 : w4.cell? ⟨g + 2, 0, none⟩ = some (.string l) := blk_cell hx4.b2 0
  have c2 : w4.cell? ⟨g + 3, 0, none⟩ = some (.slice VA gs.length vc) := blk_cell hx4.b3 0
  have zg := blk_lt hx4.b4
  have hgb : g + 4 < b := by have := blk_lt H.out.2.2.1.b4; omega
  have CS := Lib.hid (fun wx (hu : Upd w4.heap.size (fun k => k = b) w4 wx) => sorted_any wx (.slice VA gs.length vc) gs (H.out.2.2.2.1.below (hbW.trans (hu.below (fun k e => by omega) hbW.size))) H.out.2.2.2.2.1)
  clear hz2 hb4 hbox hx3 hro3 hg3 hb5 hbW hx4 hro4 hbox4 hgr4 HB4 HC4 c0
  go_wp2_with fail
  refine Reg.wp_region_puts (A := [[], [], [1], [], [3, 2, 1], [0, 3, 4, 2, 1], [5, 0, 3, 4, 2, 1], [0, 1, 2, 3, 4, 5, 6], [7, 0, 1, 2, 3, 4, 5, 6]]) (effs := [2, 4, 6, 8]) (N := 35)
    (val := fun i r => match i with | 0 => .string l | 1 => .slice VA gs.length vc | 3 => .pointer (some ⟨b, 1, none⟩) | 5 => .pointer (some ⟨b, 2, none⟩) | 7 => .pointer (some ⟨b, 3, none⟩) | _ => undef)
    (Stage := fun rs wx => PutStage W w4 wx b ⟨contact, kept, name, groups, ⟨o, hn2, i, m⟩⟩ (.slice A3 groups.length a3) l gs rs)
    (fun rs => [(some 18, .string l), (some 19, .slice VA gs.length vc), (some 20, (rs 2).getD undef), (some 21, .pointer (some ⟨b, 1, none⟩)), (none, (rs 4).getD undef), (some 22, .pointer (some ⟨b, 2, none⟩)), (none, (rs 6).getD undef), (some 23, .pointer (some ⟨b, 3, none⟩)), (none, (rs 8).getD undef)])
    (by kernel_rfl) (by kernel_rfl) rfl (fun _ => rfl) ?h0 ?hob ?hend
  case hob =>
    intro i hi
    match i, hi with
    | 0, _ => exact Reg.Ob.pure rfl rfl rfl (fun rs => .string l) (fun _ => rfl) (fun rs wx a hs hd hl hk => by
        have e1 : (a.tmps[1]?).getD undef = .pointer (some ⟨g + 2, 0, none⟩) := hk 1 (by decide)
        have c : wx.cell? ⟨g + 2, 0, none⟩ = some (.string l) := (hs.upd.cell (by omega) (by omega)).trans c1
        go_simp)
    | 1, _ => exact Reg.Ob.pure rfl rfl rfl (fun rs => .slice VA gs.length vc) (fun _ => rfl) (fun rs wx a hs hd hl hk => by
        have e2 : (a.tmps[2]?).getD undef = .pointer (some ⟨g + 3, 0, none⟩) := hk 2 (by decide)
        have c : wx.cell? ⟨g + 3, 0, none⟩ = some (.slice VA gs.length vc) := (hs.upd.cell (by omega) (by omega)).trans c2
        go_simp)
    | 2, _ =>
      refine Reg.Ob.eff rfl rfl rfl ?_
      intro rs wx a hs hd hn hl hk K hK
      have e19 : (a.tmps[19]?).getD undef = .slice VA gs.length vc := hk 19 (by decide)
      have C := Lib.hid (CS.out wx hs.upd)
      have HS := Lib.hid hs
      have HN := Lib.hid (hl 8 (by decide))
      have HKK := Lib.hid hK
      clear hs hn hd hl hk hK
      go_simp
      refine C.out.mono ?_
      rintro e w5 ⟨A, c, rfl, hb, hq⟩
      have hb2 := blk_below HS.out.box hb (blk_lt HS.out.box)
      refine HKK.out _ _ ⟨HS.out.upd.trans (Upd.of_below hb (Nat.le_refl _)) HS.out.upd.size, ?_, fun u hu => ?_⟩
      · rw [hb2]
        simp [Reg.upd, HN.out]
      · have : some (Value.slice A (sortG gs).length c) = some u := by simpa [Reg.upd] using hu
        cases this
        exact ⟨A, c, rfl, Seq.lower hq (Nat.le_trans H4.out.1.size HS.out.upd.size)⟩
    | 3, _ => exact Reg.Ob.pure rfl rfl rfl (fun rs => .pointer (some ⟨b, 1, none⟩)) (fun _ => rfl) (fun rs wx a hs hd hl hk => by
        have e6 : (a.tmps[6]?).getD undef = .pointer (some ⟨b, 0, none⟩) := hk 6 (by decide)
        go_simp)
    | 4, _ =>
      refine Reg.Ob.eff rfl rfl rfl ?_
      intro rs wx a hs hd hn hl hk K hK
      have e21 : (a.tmps[21]?).getD undef = .pointer (some ⟨b, 1, none⟩) := hk 21 (by decide)
      have hfr : wx.frozen? ⟨b, 1, none⟩ = false := blk_frozen hs.box 1
      have hcl := blk_cell hs.box 1
      simp only [hn] at hcl
      have HS := Lib.hid hs
      have HN := Lib.hid hn
      have HKK := Lib.hid hK
      clear hs hn hd hl hk hK
      go_simp
      refine HKK.out undef _ ⟨HS.out.upd.setCell (.inl rfl) _, ?_, fun u hu => ?_⟩
      · have hb := blk_set_same HS.out.box 1 (.bool true)
        rw [hb]
        simp [Reg.upd, HN.out]
      · obtain ⟨A, c, e1, e2⟩ := HS.out.res u (by simpa [Reg.upd] using hu)
        exact ⟨A, c, e1, e2.set_ty HS.out.box (by decide) _ _⟩
    | 5, _ => exact Reg.Ob.pure rfl rfl rfl (fun rs => .pointer (some ⟨b, 2, none⟩)) (fun _ => rfl) (fun rs wx a hs hd hl hk => by
        have e6 : (a.tmps[6]?).getD undef = .pointer (some ⟨b, 0, none⟩) := hk 6 (by decide)
        go_simp)
    | 6, _ =>
      refine Reg.Ob.eff rfl rfl rfl ?_
      intro rs wx a hs hd hn hl hk K hK
      have e22 : (a.tmps[22]?).getD undef = .pointer (some ⟨b, 2, none⟩) := hk 22 (by decide)
      have e18 : (a.tmps[18]?).getD undef = .string l := hk 18 (by decide)
      have hfr : wx.frozen? ⟨b, 2, none⟩ = false := blk_frozen hs.box 2
      have hcl := blk_cell hs.box 2
      simp only [hn] at hcl
      have HS := Lib.hid hs
      have HN := Lib.hid hn
      have HKK := Lib.hid hK
      clear hs hn hd hl hk hK
      go_simp
      refine HKK.out undef _ ⟨HS.out.upd.setCell (.inl rfl) _, ?_, fun u hu => ?_⟩
      · have hb := blk_set_same HS.out.box 2 (.string l)
        rw [hb]
        simp [Reg.upd, HN.out]
      · obtain ⟨A, c, e1, e2⟩ := HS.out.res u (by simpa [Reg.upd] using hu)
        exact ⟨A, c, e1, e2.set_ty HS.out.box (by decide) _ _⟩
    | 7, _ => exact Reg.Ob.pure rfl rfl rfl (fun rs => .pointer (some ⟨b, 3, none⟩)) (fun _ => rfl) (fun rs wx a hs hd hl hk => by
        have e6 : (a.tmps[6]?).getD undef = .pointer (some ⟨b, 0, none⟩) := hk 6 (by decide)
        go_simp)
    | 8, _ =>
      refine Reg.Ob.eff rfl rfl rfl ?_
      intro rs wx a hs hd hn hl hk K hK
      have e23 : (a.tmps[23]?).getD undef = .pointer (some ⟨b, 3, none⟩) := hk 23 (by decide)
      have e20 : (a.tmps[20]?).getD undef = ((rs 2).getD undef) := hk 20 (by decide)
      have hfr : wx.frozen? ⟨b, 3, none⟩ = false := blk_frozen hs.box 3
      have hcl := blk_cell hs.box 3
      simp only [hn] at hcl
      obtain ⟨u, hu2⟩ := hd 2 (by decide) (by decide)
      obtain ⟨A8, c8, rfl, _⟩ := hs.res u hu2
      rw [hu2] at e20
      simp only [Option.getD_some] at e20
      have HS := Lib.hid hs
      have HN := Lib.hid hn
      have HKK := Lib.hid hK
      clear hs hn hd hl hk hK
      go_simp
      refine HKK.out undef _ ⟨HS.out.upd.setCell (.inl rfl) _, ?_, fun u hu => ?_⟩
      · have hb := blk_set_same HS.out.box 3 (.slice A8 (sortG gs).length c8)
        rw [hb]
        simp [Reg.upd, HN.out, hu2]
      · obtain ⟨A, c, e1, e2⟩ := HS.out.res u (by simpa [Reg.upd] using hu)
        exact ⟨A, c, e1, e2.set_ty HS.out.box (by decide) _ _⟩
    | n + 9, h => exact absurd h (by simp <;> omega)
  case h0 =>
    exact ⟨(Upd.refl _ _ _).drew, blk_drew H4.out.2.2.2.1, fun u hu => by cases hu⟩
  case hend =>
    intro rs wx hs hd
    obtain ⟨u, hu⟩ := hd 2 (by decide) (by decide)
    obtain ⟨u4, hu4⟩ := hd 4 (by decide) (by decide)
    obtain ⟨u6, hu6⟩ := hd 6 (by decide) (by decide)
    obtain ⟨u8, hu8⟩ := hd 8 (by decide) (by decide)
    obtain ⟨A, c, rfl, hq⟩ := hs.res u hu
    have hbox := hs.box
    simp only [hu4, hu6, hu8, hu, Option.getD_some] at hbox
    have hupd := hs.upd
    clear hs hd hu4 hu6 hu8 u4 u6 u8
    obtain ⟨hbW, hx4, hro4, hbox4, hgr4, hz3, hz4⟩ := H4.out
    have hx5 := hx4.upd hupd (Nat.le_refl _) (fun j hj e => by omega)
    have hro5 : RoAt wx B rb mb n D R := hro4.upd hupd (Nat.le_refl _) (fun e => by omega) (fun e => by omega) (fun k cur hk _ e => by
      subst e
      rw [hbox4] at hk
      simp at hk)
    have hst : Strs wx (.slice A (sortG gs).length c) (sortG gs) := strs_of_seq hq (by have := hq.len_le; unfold maxLen at this; omega)
    obtain ⟨hpe, hsm, hrm, hit, hcs⟩ := HP.out
    obtain ⟨e9, he9⟩ : ∃ e9 : Ent, (⟨contact, true, l, sortG gs, ⟨o, hn2, i, m⟩⟩ : Ent) = e9 := ⟨_, rfl⟩
    have hgl := H.out.2.2.2.2.1
    have C5 := rset_any hro5 ⟨contact, true, l, sortG gs, ⟨o, hn2, i, m⟩⟩ (.slice A (sortG gs).length c) hst (Nat.le_trans (sortG_le gs) hgl) hsm.2 hn (Nat.le_trans hB (Nat.le_trans hbW.size hupd.size))
    have hset := RS.set_ver R ⟨contact, true, l, sortG gs, ⟨o, hn2, i, m⟩⟩
    rw [he9] at C5 hset
    have HC5 := Lib.hid C5
    have c0 : wx.cell? ⟨g, 0, none⟩ = some (.pointer (some ⟨rb, 0, none⟩)) := blk_cell hx5.b0 0
    obtain ⟨y0, y1, y2, y3, y4, y5, y6, y7, _⟩ := cells8 hbox
    have hpe2 : R.putE s l gs = e9 := by rw [hpe, ← he9]
    have HH := Lib.hid (And.intro hbW (And.intro hx5 (And.intro hbox (And.intro hupd (And.intro hq (And.intro hset (And.intro he9 hpe2)))))))
    simp only [List.foldl_cons, List.foldl_nil, Act.put, List.setIfInBounds_toArray, List.set_cons_zero, List.set_cons_succ]
    rw [hu]
    simp only [Option.getD_some]
    have e9v : e9.val (.slice A (sortG gs).length c) = .agg #[.string contact, .bool true, .string l, .slice A (sortG gs).length c, .int .i64 o, .int .u64 hn2, .int .i64 i, .int .u64 m] := by rw [← he9]
    rw [e9v] at HC5
    clear hbW hx4 hro4 hbox4 hgr4 hx5 hro5 hst hbox hupd hq hset hpe hsm hrm hit hcs hpe2 he9 e9v C5 hgl H4 HP hu c1 c2 CS
    go_wp2_with fail
    refine HC5.out.mono ?_
    rintro e w6 ⟨rfl, ⟨m6, D6, hn6, hro6⟩, hu6⟩
    obtain ⟨hbW, hx5, hbox, hupd, hq, hset, he9, hpe⟩ := HH.out
    have hz5 := hupd.size
    have hbx6 := blk_upd hbox hu6 (blk_lt hbox) (by rintro (e | e) <;> omega)
    have hx6 := hx5.upd hu6 (Nat.le_refl _) (fun j hj e => by rcases e with e | e <;> omega)
    have hq6 : Seq w6 W.heap.size 9 1 (.slice A (sortG gs).length c) (sortG gs).length (flatS (sortG gs)) := hq.kept (fun k hk => by
      obtain ⟨cur, hc⟩ := hq.block k hk
      have h1 := (hq.lt k hk).1
      have hlt := H.out.1.lt
      refine hu6.block k (blk_lt hc) (by rintro (e | e) <;> omega))
    have c0 : w6.cell? ⟨g, 0, none⟩ = some (.pointer (some ⟨rb, 0, none⟩)) := blk_cell hx6.b0 0
    have r2 : w6.cell? ⟨rb, 2, none⟩ = some (.int .u64 R.ver) := by rw [← hset.1]; exact blk_cell hro6.cells 2
    have rz2 : w6.frozen? ⟨rb, 2, none⟩ = false := blk_frozen hro6.cells 2
    obtain ⟨y0, y1, y2, y3, y4, y5, y6, y7, _⟩ := cells8 hbx6
    obtain ⟨x0, x1, x2, x3, x4, x5, x6, x7, f0, f1, f2, f3, f4, f5, f6, f7⟩ := cells8 hx6.b4
    have n1 : ¬ rb = b := by omega
    have n2 : ¬ b = rb := by omega
    have n3 : ¬ rb = g + 4 := by omega
    have n4 : ¬ g + 4 = rb := by omega
    have n5 : ¬ b = g + 4 := by omega
    have n6 : ¬ g + 4 = b := by omega
    have wv : IntKind.u64.wrap (R.ver + 1) = R.ver + 1 := IntWalk.u64_in _ (by omega)
    have H6 := Lib.hid (And.intro hn6 (And.intro hro6 (And.intro hu6 (And.intro hbx6 (And.intro hx6 hq6)))))
    clear hbW hx5 hbox hupd hq hset he9 hpe hn6 hro6 hu6 hbx6 hx6 hq6 HC5
    go_wp2_with fail
    go_end0
    obtain ⟨hbW, hx5, hbox, hupd, hq, hset, he9, hpe⟩ := HH.out
    obtain ⟨hn6, hro6, hu6, hbx6, hx6, hq6⟩ := H6.out
    rw [hpe]
    have e9v : entC e9 (.slice A e9.groups.length c) = .cells #[.string contact, .bool true, .string l, .slice A (sortG gs).length c, .int .i64 o, .int .u64 hn2, .int .i64 i, .int .u64 m] 54 := by rw [← he9]
    have e9g : e9.groups = sortG gs := by rw [← he9]
    have hro7 : RoAt (w6.setCell ⟨rb, 2, none⟩ (.int .u64 (R.ver + 1))) B rb mb m6 D6 { R.set e9 with ver := R.ver + 1 } := RoAtK.field hro6 2 _ rfl rfl
    have hg7 := blk_set_other hx6.b4 (a := (⟨rb, 2, none⟩ : Addr)) (.int .u64 (R.ver + 1)) n4
    have hs8 := upd_set8 (B := (w6.setCell ⟨rb, 2, none⟩ (.int .u64 (R.ver + 1))).heap.size) (ks := fun k => k = g + 4) (b := g + 4) (Upd.refl _ _ (w6.setCell ⟨rb, 2, none⟩ (.int .u64 (R.ver + 1)))) (.inl rfl) (.string contact) (.bool true) (.string l) (.slice A (sortG gs).length c) (.int .i64 o) (.int .u64 hn2) (.int .i64 i) (.int .u64 m)
    have hz5 := hupd.size
    have hz6 := hu6.size
    have hzW := hbW.size
    refine ⟨rfl, ⟨m6, D6, hn6, ?_⟩, ?_, A, c, ?_, ?_⟩
    · refine RoAtK.upd hro7 hs8 (Nat.le_refl _) (fun e => by omega) (fun e => by omega) (fun k cur hk _ e => ?_)
      subst e
      rw [hg7] at hk
      simp at hk
    · refine ((((Upd.of_below hbW (Nat.le_refl _)).comp hupd hzW (fun k hlt e => by omega)).comp hu6 (by omega) (fun k hlt e => ?_)).setCell (.inl (.inl rfl)) _).comp hs8 (by simp; omega) (fun k hlt e => .inr (.inr e))
      rcases e with e | e
      · exact .inl e
      · exact .inr (.inl e)
    · rw [e9v]
      exact blk_set8 hg7 _ _ _ _ _ _ _ _
    · rw [e9g]
      refine grp_of_seq ((hq6.set_ty hro6.cells (by decide) 2 _).kept (fun k hk => hs8.block k ?_ ?_))
      · have := (hq6.lt k hk).2; simpa using this
      · intro e
        have := (hq6.lt k hk).1
        have := blk_lt H.out.2.2.1.b4
        omega

set_option maxRecDepth 100000 in
set_option maxHeartbeats 8000000 in
theorem put1_name {W : World} {g rb : Nat} {s l : ByteArray} {v : Value} {x : Ent} {xg : Value} (hT : Tabs W) (hs : s.size ≤ 9223372036854775807) (hx : PutBox W g rb s l v x xg) (hE : (localS s).2 ≠ 0) :
    Calls Tryz.prog 59 (putCaps g) W fun e w' => e = .panicked [{ v := rfailsV (localS s).2, recovered := false }] ∧ Below W.heap.size W w' := by
  have C1 := Lib.hid (rlocal_no s W hT hs hE)
  generalize (localS s).2 = c at *
  have c1 : W.cell? ⟨g + 1, 0, none⟩ = some (.string s) := blk_cell hx.b1 0
  clear hT hx hE hs
  go_enter Tryz.func59, Tryz.ntmps59
  go_wp2_with fail
  refine C1.out.mono ?_
  rintro e w1 ⟨rfl, hb1⟩
  go_wp2_with fail
  exact ⟨rfl, rfl, hb1⟩

set_option maxRecDepth 100000 in
set_option maxHeartbeats 8000000 in
theorem put1_words {W : World} {g rb : Nat} {s l : ByteArray} {v : Value} {gs : List ByteArray} {x : Ent} {xg : Value} (hT : Tabs W) (hs : s.size ≤ 9223372036854775807) (hl : l.size ≤ 9223372036854775807) (hv : Strs W v gs) (hgs : ∀ g ∈ gs, g.size ≤ 9223372036854775807) (hx : PutBox W g rb s l v x xg) (hE : (localS s).2 = 0) (hw : wordsE l gs ≠ 0) :
    Calls Tryz.prog 59 (putCaps g) W fun e w' => e = .panicked [{ v := rfailsV (wordsE l gs), recovered := false }] ∧ Below W.heap.size W w' := by
  obtain ⟨VA, vc, rfl⟩ : ∃ A c, v = .slice A gs.length c := let ⟨⟨A, cap, h, _⟩, _⟩ := hv; ⟨A, cap, h⟩
  have C1 := Lib.hid (rlocal_ok s W hT hs hE)
  have C2 := Lib.hid (fun W' (hW : Below W.heap.size W W') => words_any l _ gs W' (hT.later hW) hl (hv.below hW) hgs)
  generalize wordsE l gs = c at *
  have c1 : W.cell? ⟨g + 1, 0, none⟩ = some (.string s) := blk_cell hx.b1 0
  have HX := Lib.hid (And.intro hx hw)
  clear hT hx hE hs hw hv hgs
  go_enter Tryz.func59, Tryz.ntmps59
  go_wp2_with fail
  refine C1.out.mono ?_
  rintro e w1 ⟨rfl, hb1⟩
  have hx1 := HX.out.1.below hb1
  have d1 : w1.cell? ⟨g + 2, 0, none⟩ = some (.string l) := blk_cell hx1.b2 0
  have d2 : w1.cell? ⟨g + 3, 0, none⟩ = some (.slice VA gs.length vc) := blk_cell hx1.b3 0
  have HB1 := Lib.hid hb1
  clear hb1 hx1 c1 C1
  go_wp2_with fail
  refine (C2.out w1 HB1.out).mono ?_
  rintro e w2 ⟨he, hb2⟩
  obtain rfl : e = .panicked [{ v := rfailsV c, recovered := false }] := by simpa [WordsEnd, HX.out.2] using he
  go_wp2_with fail
  exact ⟨rfl, rfl, HB1.out.trans (hb2.mono HB1.out.size)⟩

set_option maxRecDepth 100000 in
set_option maxHeartbeats 8000000 in
theorem put1_full {W : World} {B rb mb n : Nat} {D : DataW Value} {R : RS} (h : RoAt W B rb mb n D R) {g : Nat} {s l : ByteArray} {v : Value} {gs : List ByteArray} {x : Ent} {xg : Value} (hT : Tabs W) (hs : s.size ≤ 9223372036854775807) (hl : l.size ≤ 9223372036854775807) (hv : Strs W v gs) (hgs : ∀ g ∈ gs, g.size ≤ 9223372036854775807) (hx : PutBox W g rb s l v x xg) (hE : (localS s).2 = 0) (hw : wordsE l gs = 0)
    (hr : (R.entry (localS s).1).kept = false ∧ ¬ (R.kept : Int) < R.items) :
    Calls Tryz.prog 59 (putCaps g) W fun e w' => e = .panicked [{ v := rfailsV 8, recovered := false }] ∧ Below W.heap.size W w' := by
  obtain ⟨VA, vc, rfl⟩ : ∃ A c, v = .slice A gs.length c := let ⟨⟨A, cap, h, _⟩, _⟩ := hv; ⟨A, cap, h⟩
  have hcs := localS_le s
  have C1 := Lib.hid (rlocal_ok s W hT hs hE)
  obtain ⟨x, hxx⟩ : ∃ x, (localS s).1 = x := ⟨_, rfl⟩
  rw [hxx] at C1 hr hcs
  have C2 := Lib.hid (fun W' (hW : Below W.heap.size W W') => words_any l _ gs W' (hT.later hW) hl (hv.below hW) hgs)
  rw [hw] at C2
  obtain ⟨it, hit⟩ : ∃ it, R.entry x = it := ⟨_, rfl⟩
  have C3 := Lib.hid (fun W' (hW : Below W.heap.size W W') => rentry_any (h.below hW) x (by unfold maxLen; omega))
  rw [hit] at hr C3
  have c0 : W.cell? ⟨g, 0, none⟩ = some (.pointer (some ⟨rb, 0, none⟩)) := blk_cell hx.b0 0
  have c1 : W.cell? ⟨g + 1, 0, none⟩ = some (.string s) := blk_cell hx.b1 0
  have H := Lib.hid (And.intro h (And.intro hx hr))
  clear h hT hx hE hw hr hit hcs hxx hv hgs
  go_enter Tryz.func59, Tryz.ntmps59
  go_wp2_with fail
  refine C1.out.mono ?_
  rintro e w1 ⟨rfl, hb1⟩
  have hx1 := H.out.2.1.below hb1
  have d1 : w1.cell? ⟨g + 2, 0, none⟩ = some (.string l) := blk_cell hx1.b2 0
  have d2 : w1.cell? ⟨g + 3, 0, none⟩ = some (.slice VA gs.length vc) := blk_cell hx1.b3 0
  have HB1 := Lib.hid hb1
  clear hb1 hx1 c0 c1 C1
  go_wp2_with fail
  refine (C2.out w1 HB1.out).mono ?_
  rintro e w2 ⟨he, hb2⟩
  obtain rfl : e = .returned (.tuple #[]) := by simpa [WordsEnd] using he
  have HB2 := Lib.hid (HB1.out.trans (hb2.mono HB1.out.size))
  have hx2 := H.out.2.1.below HB2.out
  have c0 : w2.cell? ⟨g, 0, none⟩ = some (.pointer (some ⟨rb, 0, none⟩)) := blk_cell hx2.b0 0
  clear he hb2 HB1 C2 hx2 d1 d2
  go_wp2_with fail
  refine (C3.out w2 HB2.out).mono ?_
  rintro e w3 ⟨⟨A3, a3, rfl, hg3⟩, hb3⟩
  have hb3' := HB2.out.trans (hb3.mono HB2.out.size)
  have hx3 := (H.out.2.1.below hb3').below ((Below.refl _ _).alloc (Nat.le_refl _) (entC it (.slice A3 it.groups.length a3)))
  have hro3 := (H.out.1.below hb3').below ((Below.refl _ _).alloc (Nat.le_refl _) (entC it (.slice A3 it.groups.length a3)))
  have hb4 := hb3'.alloc hb3'.size (entC it (.slice A3 it.groups.length a3))
  have C4 := room_full hro3 it (.slice A3 it.groups.length a3) H.out.2.2.1 (by have := H.out.2.2.2; omega)
  obtain ⟨contact, kept, name, groups, ⟨o, hn2, i, m⟩⟩ := it
  simp only at hx3 hro3 hb4 C4
  have c0 : (w3.alloc (.cells #[.string contact, .bool kept, .string name, .slice A3 groups.length a3, .int .i64 o, .int .u64 hn2, .int .i64 i, .int .u64 m] 54)).cell? ⟨g, 0, none⟩ = some (.pointer (some ⟨rb, 0, none⟩)) := blk_cell hx3.b0 0
  have HB4 := Lib.hid hb4
  have HC4 := Lib.hid C4
  clear hb3 hb3' hx3 hro3 hb4 C4 hg3 C3 HB2
  simp only [Ent.val]
  go_wp2_with fail
  refine HC4.out.mono ?_
  rintro e w4 ⟨rfl, hb5⟩
  go_wp2_with fail
  exact ⟨rfl, rfl, HB4.out.trans (hb5.mono HB4.out.size)⟩

theorem put1_any {W : World} {B rb mb n : Nat} {D : DataW Value} {R : RS} (h : RoAt W B rb mb n D R) (hT : Tabs W) (g : Nat) (s l : ByteArray) (v : Value) (gs : List ByteArray) (hs : s.size ≤ 9223372036854775807) (hl : l.size ≤ 9223372036854775807) (hv : Strs W v gs) (hgl : gs.length ≤ 1000000) (hgs : ∀ g ∈ gs, g.size ≤ 9223372036854775807)
    (hx : PutBox W g rb s l v Ent.zero (.slice none 0 0)) (hn : n ≤ 1000000) (hB : B ≤ W.heap.size) (hg : rb < g ∧ mb < g) (hv0 : 0 ≤ R.ver) (hv1 : R.ver < 18446744073709551615) :
    Calls Tryz.prog 59 (putCaps g) W fun e w' => PutPost W B rb mb n g (R.putAll s l gs).1 (R.putAll s l gs).2.1 (R.putAll s l gs).2.2 e w' := by
  unfold RS.putAll
  by_cases hE : (localS s).2 = 0
  · rw [if_neg (by simpa using hE)]
    by_cases hw : wordsE l gs = 0
    · rw [if_neg (by simpa using hw)]
      by_cases hr : (R.entry (localS s).1).kept = false ∧ ¬ (R.kept : Int) < R.items
      · rw [if_pos hr]
        exact (put1_full h hT hs hl hv hgs hx hE hw hr).mono fun e w' ⟨a, b⟩ => .inl ⟨by simp, a, b⟩
      · rw [if_neg hr]
        exact (put1_do h hT g s l v gs hs hl hv hgl hgs hx hn hB hg hv0 hv1 hE hw hr).mono fun e w' ⟨a, b⟩ => .inr ⟨rfl, a, b⟩
    · rw [if_pos hw]
      exact (put1_words hT hs hl hv hgs hx hE hw).mono fun e w' ⟨a, b⟩ => .inl ⟨hw, a, b⟩
  · rw [if_pos hE]
    exact (put1_name hT hs hx hE).mono fun e w' ⟨a, b⟩ => .inl ⟨hE, a, b⟩

end Go.Proofs.YthbjcihdlhkboaaGreatDoor

namespace Go.Proofs.YthbjcihdlhkboaaGreatDoor
set_option linter.unusedSimpArgs false
set_option linter.unusedVariables false
open Go.RowKit Go.Maps Go.Shelf Go.Lib

/-- The world at the head of what is tried. -/
abbrev putW (w : World) (rb : Nat) (s l : ByteArray) (v : Value) : World :=
  ((((w.alloc (.cells #[.pointer (some ⟨rb, 0, none⟩)] 42)).alloc (.cells #[.string s] 9)).alloc (.cells #[.string l] 9)).alloc (.cells #[v] 32)).alloc (entC Ent.zero (.slice none 0 0))
theorem putW_size (w : World) (rb : Nat) (s l : ByteArray) (v : Value) : (putW w rb s l v).heap.size = w.heap.size + 5 := by simp
theorem putW_below (w : World) (rb : Nat) (s l : ByteArray) (v : Value) : Below w.heap.size w (putW w rb s l v) :=
  ((((((Below.refl _ _).alloc (Nat.le_refl _) _).alloc (by simp) _).alloc (by simp <;> omega) _).alloc (by simp <;> omega) _).alloc (by simp <;> omega) _)
theorem putW_box (w : World) (rb : Nat) (s l : ByteArray) (v : Value) : PutBox (putW w rb s l v) w.heap.size rb s l v Ent.zero (.slice none 0 0) where
  b0 := blk_alloc (blk_alloc (blk_alloc (blk_alloc (blk_new _ _) _) _) _) _
  b1 := blk_alloc (blk_alloc (blk_alloc (blk_new' _ (by simp)) _) _) _
  b2 := blk_alloc (blk_alloc (blk_new' _ (by simp)) _) _
  b3 := blk_alloc (blk_new' _ (by simp)) _
  b4 := blk_new' _ (by simp)

/-- What Put leaves. -/
structure PutEnd (w w' : World) (B rb mb n : Nat) (R : RS) (e : Ent) : Prop where
  ro : AnyRo w w' B rb mb n R
  upd : Upd w.heap.size (fun k => k = rb ∨ k = mb) w w'
  b4 : ∃ A c, w'.heap[w.heap.size + 4]? = some (entC e (.slice A e.groups.length c)) ∧ Grp w' w.heap.size (.slice A e.groups.length c) e.groups

/-- What is tried of a Put. -/
theorem put_tried {w : World} {B rb mb n : Nat} {D : DataW Value} {R : RS} (h : RoAt w B rb mb n D R) (hT : Tabs w) (s l : ByteArray) (v : Value) (gs : List ByteArray) (hs : s.size ≤ 9223372036854775807) (hl : l.size ≤ 9223372036854775807) (hv : Strs w v gs) (hgl : gs.length ≤ 1000000) (hgs : ∀ g ∈ gs, g.size ≤ 9223372036854775807)
    (hn : n ≤ 1000000) (hB : B ≤ w.heap.size) (hv0 : 0 ≤ R.ver) (hv1 : R.ver < 18446744073709551615) :
    Calls Tryz.prog 58 #[.func (.func 59) #[] (putCaps w.heap.size)] (putW w rb s l v) fun e w' =>
      e = .returned (.int .i64 (R.putAll s l gs).2.2) ∧ PutEnd w w' B rb mb (n + 1) (R.putAll s l gs).1 (R.putAll s l gs).2.1 := by
  have hE : ∀ args w, (callFunc 59 args).run Tryz.prog w = .ok (.enter 59 args) w := enters_of Tryz.func59 (by kernel_rfl) rfl
  have hbA := putW_below w rb s l v
  have hsz := putW_size w rb s l v
  have hbx := putW_box w rb s l v
  generalize putW w rb s l v = WA at *
  obtain ⟨E, hEe⟩ : ∃ E, (Obj.cells #[.int .i64 0] 24) = E := ⟨_, rfl⟩
  have hbE : Below WA.heap.size WA (WA.alloc E) := (Below.refl _ _).alloc (Nat.le_refl _) _
  have hbWE : Below w.heap.size w (WA.alloc E) := hbA.trans (hbE.mono (by omega))
  have hszE : (WA.alloc E).heap.size = w.heap.size + 6 := by simp; omega
  have hlt := h.lt
  have hC := put1_any (h.below hbWE) (hT.later hbWE) w.heap.size s l v gs hs hl (hv.below hbWE) hgl hgs (hbx.below hbE) hn (by omega) hlt hv0 hv1
  have hbox : (WA.alloc E).heap[WA.heap.size]? = some E := blk_new _ _
  have hun : (R.putAll s l gs).2.2 ≠ 0 → (R.putAll s l gs).1 = R ∧ (R.putAll s l gs).2.1 = Ent.zero := by
    unfold RS.putAll
    repeat' split
    all_goals simp
  generalize R.putAll s l gs = X at *
  obtain ⟨R', x, c⟩ := X
  simp only at hC hun ⊢
  by_cases hc : c = 0
  · subst hc
    subst hEe
    refine (tries_ok 59 (putCaps w.heap.size) WA (fun w' => PutDone (WA.alloc (.cells #[.int .i64 0] 24)) w' B rb mb n w.heap.size R' x) hE (hC.mono fun e w' hp => ?_)).mono ?_
    · rcases hp with ⟨h0, _⟩ | ⟨_, a, b⟩
      · exact absurd rfl h0
      · exact ⟨a, blk_upd hbox b.upd (blk_lt hbox) (by rintro (e | e | e) <;> omega), b⟩
    · rintro e w' ⟨rfl, w1, hd, hx1, rfl⟩
      have hu : Upd w1.heap.size (fun k => k = WA.heap.size) w1 (w1.setCell ⟨WA.heap.size, 0, none⟩ (.int .i64 0)) := Upd.setCell (ks := fun k => k = WA.heap.size) (Upd.refl _ _ _) (a := (⟨WA.heap.size, 0, none⟩ : Addr)) (.inl rfl) _
      obtain ⟨A, cc, hb4, hg4⟩ := hd.b4
      refine ⟨rfl, ?_, ?_, A, cc, ?_, ?_⟩
      · obtain ⟨n', D', hn', hro⟩ := hd.ro
        refine ⟨n', D', hn', RoAtK.upd hro hu (Nat.le_refl _) (by omega) (by omega) ?_⟩
        rintro k cur hk _ e
        subst e
        rw [hx1] at hk
        simp at hk
      · exact (upd_of_boxes hbWE hd.upd (by omega) (by rintro k (e | e | e); exact .inl e; exact .inr (.inl e); exact .inr (.inr (by omega)))).setCell (.inr (by show w.heap.size ≤ WA.heap.size; omega)) _
      · exact blk_set_other hb4 _ (by show w.heap.size + 4 ≠ WA.heap.size; omega)
      · refine (hg4.lower (by omega)).kept (fun k cur hk _ => Below.heap_setCell _ _ _ k ?_)
        rintro rfl
        rw [hx1] at hk
        simp at hk
  · obtain ⟨hR, hx⟩ := hun hc
    subst hR
    subst hx
    subst hEe
    refine (tries_no 59 (putCaps w.heap.size) WA c (fun w' => Below (WA.alloc (.cells #[.int .i64 0] 24)).heap.size (WA.alloc (.cells #[.int .i64 0] 24)) w') hE (hC.mono fun e w' hp => ?_)).mono ?_
    · rcases hp with ⟨_, a, b⟩ | ⟨h0, _⟩
      · exact ⟨a, blk_below hbox b (blk_lt hbox), b⟩
      · exact absurd h0 hc
    · rintro e w' ⟨rfl, w1, hb1, hx1, rfl⟩
      have hb2 : Below w.heap.size w w1 := hbWE.trans (hb1.mono (by omega))
      have hu : Upd w1.heap.size (fun k => k = WA.heap.size) w1 (w1.setCell ⟨WA.heap.size, 0, none⟩ (.int .i64 c)) := Upd.setCell (ks := fun k => k = WA.heap.size) (Upd.refl _ _ _) (a := (⟨WA.heap.size, 0, none⟩ : Addr)) (.inl rfl) _
      refine ⟨rfl, ⟨n, D, Nat.le_succ _, ?_⟩, Upd.of_below (Below.setCell hb2 (by show w.heap.size ≤ WA.heap.size; omega) _) (Nat.le_refl _), none, 0, ?_, Grp.nil _ _⟩
      · refine RoAtK.upd (h.below hb2) hu (Nat.le_refl _) (by omega) (by omega) ?_
        rintro k cur hk _ e
        subst e
        rw [hx1] at hk
        simp at hk
      · exact blk_set_other (blk_below (blk_alloc hbx.b4 _) hb1 (by simp; omega)) _ (by show w.heap.size + 4 ≠ WA.heap.size; omega)

/-- The box of Put's result is written with what it holds. -/
theorem put_fin {w w1 : World} {B rb mb n b : Nat} {R' : RS} {contact name : ByteArray} {kept : Bool} {groups : List ByteArray} {o hn2 i m : Int} {A : Option Addr} {cc : Nat} (hro : AnyRo w w1 B rb mb n R') (hupd : Upd w.heap.size (fun k => k = rb ∨ k = mb) w w1) (hlt : rb < w.heap.size ∧ mb < w.heap.size) (hbb : w.heap.size ≤ b)
    (hb4 : w1.heap[b]? = some (entC ⟨contact, kept, name, groups, ⟨o, hn2, i, m⟩⟩ (.slice A groups.length cc))) (hg4 : Grp w1 w.heap.size (.slice A groups.length cc) groups) :
    ∃ WW, ((((((((w1.setCell ⟨b, 0, none⟩ (.string contact)).setCell ⟨b, 1, none⟩ (.bool kept)).setCell ⟨b, 2, none⟩ (.string name)).setCell ⟨b, 3, none⟩ (.slice A groups.length cc)).setCell ⟨b, 4, none⟩ (.int .i64 o)).setCell ⟨b, 5, none⟩ (.int .u64 hn2)).setCell ⟨b, 6, none⟩ (.int .i64 i)).setCell ⟨b, 7, none⟩ (.int .u64 m)) = WW ∧ Grp WW w.heap.size (.slice A groups.length cc) groups ∧ AnyRo w WW B rb mb n R' ∧ Upd w.heap.size (fun k => k = rb ∨ k = mb) w WW ∧ WW.heap[b]? = some (entC ⟨contact, kept, name, groups, ⟨o, hn2, i, m⟩⟩ (.slice A groups.length cc)) := by
  have hs8 : Upd w1.heap.size (fun k => k = b) w1 ((((((((w1.setCell ⟨b, 0, none⟩ (.string contact)).setCell ⟨b, 1, none⟩ (.bool kept)).setCell ⟨b, 2, none⟩ (.string name)).setCell ⟨b, 3, none⟩ (.slice A groups.length cc)).setCell ⟨b, 4, none⟩ (.int .i64 o)).setCell ⟨b, 5, none⟩ (.int .u64 hn2)).setCell ⟨b, 6, none⟩ (.int .i64 i)).setCell ⟨b, 7, none⟩ (.int .u64 m)) := upd_set8 (b := b) (ks := fun k => k = b) (Upd.refl _ _ _) (.inl rfl) _ _ _ _ _ _ _ _
  have hb8 := blk_set8 hb4 (.string contact) (.bool kept) (.string name) (.slice A groups.length cc) (.int .i64 o) (.int .u64 hn2) (.int .i64 i) (.int .u64 m)
  have hz := hupd.size
  refine ⟨_, rfl, hg4.kept fun k cur hk _ => hs8.block k (blk_lt hk) (fun e => ?_), ?_, hupd.comp hs8 hz (fun k hk e => by omega), hb8⟩
  · subst e
    rw [hb4] at hk
    simp at hk
  · obtain ⟨n', D', hn', hro⟩ := hro
    refine ⟨n', D', hn', RoAtK.upd hro hs8 (Nat.le_refl _) (by omega) (by omega) (fun k cur hk _ e => ?_)⟩
    subst e
    rw [hb4] at hk
    simp at hk

set_option maxRecDepth 100000 in
set_option maxHeartbeats 8000000 in
theorem rput_any {w : World} {B rb mb n : Nat} {D : DataW Value} {R : RS} (h : RoAt w B rb mb n D R) (hT : Tabs w) (s l : ByteArray) (v : Value) (gs : List ByteArray) (hs : s.size ≤ 9223372036854775807) (hl : l.size ≤ 9223372036854775807) (hv : Strs w v gs) (hgl : gs.length ≤ 1000000) (hgs : ∀ g ∈ gs, g.size ≤ 9223372036854775807)
    (hn : n ≤ 1000000) (hB : B ≤ w.heap.size) (hv0 : 0 ≤ R.ver) (hv1 : R.ver < 18446744073709551615) :
    Calls Tryz.prog 21 #[.pointer (some ⟨rb, 0, none⟩), .string s, .string l, v] w fun e w' =>
      (∃ A c, e = .returned (.tuple #[(R.putAll s l gs).2.1.val (.slice A (R.putAll s l gs).2.1.groups.length c), .int .i64 (R.putAll s l gs).2.2]) ∧ Grp w' w.heap.size (.slice A (R.putAll s l gs).2.1.groups.length c) (R.putAll s l gs).2.1.groups) ∧
      AnyRo w w' B rb mb (n + 1) (R.putAll s l gs).1 ∧ Upd w.heap.size (fun k => k = rb ∨ k = mb) w w' := by
  have C := put_tried h hT s l v gs hs hl hv hgl hgs hn hB hv0 hv1
  obtain ⟨VA, vc, rfl⟩ : ∃ A c, v = .slice A gs.length c := let ⟨⟨A, cap, h, _⟩, _⟩ := hv; ⟨A, cap, h⟩
  have hlt := h.lt
  generalize R.putAll s l gs = X at *
  obtain ⟨R', ⟨contact, kept, name, groups, ⟨o, hn2, i, m⟩⟩, c⟩ := X
  have HC := Lib.hid C
  have hmf : ∀ (fn : Fn) (first cap : Array Value) (w : World), (Instr.makeFunc fn first cap).run Tryz.prog w = .ok (.func fn first cap) w := fun _ _ _ _ => rfl
  simp only at HC ⊢
  clear C h hT hv hgs
  go_enter Tryz.func21, Tryz.ntmps21
  go_wp2_with fail
  refine HC.out.mono ?_
  rintro e w1 ⟨rfl, hE⟩
  obtain ⟨A, cc, hb4, hg4⟩ := hE.b4
  obtain ⟨x0, x1, x2, x3, x4, x5, x6, x7, f0, f1, f2, f3, f4, f5, f6, f7⟩ := cells8 hb4
  have HEE := Lib.hid (And.intro hE (And.intro hb4 hg4))
  clear hE hb4 hg4
  go_wp2_with fail
  obtain ⟨WW, hWW, h2, h3, h4, h5⟩ := put_fin HEE.out.1.ro HEE.out.1.upd hlt (b := w.heap.size + 1 + 1 + 1 + 1) (by omega) HEE.out.2.1 HEE.out.2.2
  rw [hWW]
  obtain ⟨j0, j1, j2, j3, j4, j5, j6, j7, _⟩ := cells8 h5
  have HFIN := Lib.hid (And.intro h2 (And.intro h3 h4))
  clear hWW h2 h3 h4 h5 HEE x0 x1 x2 x3 x4 x5 x6 x7 f0 f1 f2 f3 f4 f5 f6 f7 HC
  simp [bodyPost, results, Tryz.results21, go_sem, j0, j1, j2, j3, j4, j5, j6, j7]
  exact ⟨⟨A, cc, ⟨rfl, rfl⟩, HFIN.out.1⟩, HFIN.out.2⟩

end Go.Proofs.YthbjcihdlhkboaaGreatDoor

namespace Go.Proofs.YthbjcihdlhkboaaGreatDoor
set_option linter.unusedSimpArgs false
set_option linter.unusedVariables false
open Go.RowKit Go.Maps Go.Shelf Go.Lib

/-- The variables that the closure of Drop has caught. -/
structure DropBox (W : World) (g rb : Nat) (s : ByteArray) (x : Ent) (xg : Value) : Prop where
  b0 : W.heap[g]? = some (.cells #[.pointer (some ⟨rb, 0, none⟩)] 42)
  b1 : W.heap[g + 1]? = some (.cells #[.string s] 9)
  b2 : W.heap[g + 2]? = some (entC x xg)
abbrev dropCaps (g : Nat) : Array Value := #[.pointer (some ⟨g, 0, none⟩), .pointer (some ⟨g + 1, 0, none⟩), .pointer (some ⟨g + 2, 0, none⟩)]
theorem DropBox.below {W W' : World} {g rb : Nat} {s : ByteArray} {x : Ent} {xg : Value} (h : DropBox W g rb s x xg) (hb : Below W.heap.size W W') : DropBox W' g rb s x xg :=
  ⟨blk_below h.b0 hb (blk_lt h.b0), blk_below h.b1 hb (blk_lt h.b1), blk_below h.b2 hb (blk_lt h.b2)⟩
theorem DropBox.upd {W W' : World} {g rb : Nat} {s : ByteArray} {x : Ent} {xg : Value} (h : DropBox W g rb s x xg) {C : Nat} {ks : Nat → Prop} (hu : Upd C ks W W') (hC : W.heap.size ≤ C) (hk : ∀ j, j < 3 → ¬ ks (g + j)) : DropBox W' g rb s x xg :=
  ⟨blk_upd h.b0 hu (by have := blk_lt h.b0; omega) (hk 0 (by omega)), blk_upd h.b1 hu (by have := blk_lt h.b1; omega) (hk 1 (by omega)), blk_upd h.b2 hu (by have := blk_lt h.b2; omega) (hk 2 (by omega))⟩

structure DropDone (W w' : World) (B rb mb n g : Nat) (R : RS) (e : Ent) : Prop where
  ro : ∃ n' D', n' ≤ n + 1 ∧ RoAt w' B rb mb n' D' R
  upd : Upd W.heap.size (fun k => k = rb ∨ k = mb ∨ k = g + 2) W w'
  b2 : ∃ A c, w'.heap[g + 2]? = some (entC e (.slice A e.groups.length c)) ∧ Grp w' W.heap.size (.slice A e.groups.length c) e.groups
def DropPost (W : World) (B rb mb n g : Nat) (R : RS) (e : Ent) (c : Int) (r : Ending) (w' : World) : Prop :=
  (c ≠ 0 ∧ r = .panicked [{ v := rfailsV c, recovered := false }] ∧ Below W.heap.size W w') ∨ (c = 0 ∧ r = .returned (.tuple #[]) ∧ DropDone W w' B rb mb n g R e)

/-- Drop's first region: a box is made for the entry, which is looked for meanwhile. -/
structure DropStage (W wx : World) (x : ByteArray) (it : Ent) (rs : Nat → Option Value) : Prop where
  below : Below W.heap.size W wx
  loc : ∀ u, rs 2 = some u → u = .string x
  al : ∀ u, rs 4 = some u → ∃ b, u = .pointer (some ⟨b, 0, none⟩) ∧ W.heap.size ≤ b ∧ (rs 5 = none → wx.heap[b]? = some (entC (Ent.new ⟨#[]⟩) (.slice none 0 0)))
  res : ∀ u, rs 3 = some u → ∃ A c, u = it.val (.slice A it.groups.length c) ∧ Grp wx W.heap.size (.slice A it.groups.length c) it.groups ∧ (∀ z, rs 5 = some z → ∃ b, rs 4 = some (.pointer (some ⟨b, 0, none⟩)) ∧ wx.heap[b]? = some (entC it (.slice A it.groups.length c)))

set_option maxRecDepth 100000 in
set_option maxHeartbeats 8000000 in
theorem drop1_name {W : World} {g rb : Nat} {s : ByteArray} {x : Ent} {xg : Value} (hT : Tabs W) (hs : s.size ≤ 9223372036854775807) (hx : DropBox W g rb s x xg) (hE : (localS s).2 ≠ 0) :
    Calls Tryz.prog 66 (dropCaps g) W fun e w' => e = .panicked [{ v := rfailsV (localS s).2, recovered := false }] ∧ Below W.heap.size W w' := by
  have C1 := Lib.hid (fun W' (hW : Below W.heap.size W W') => rlocal_no s W' (hT.later hW) hs hE)
  generalize (localS s).2 = c at *
  have c0 : W.cell? ⟨g, 0, none⟩ = some (.pointer (some ⟨rb, 0, none⟩)) := blk_cell hx.b0 0
  have c1 : W.cell? ⟨g + 1, 0, none⟩ = some (.string s) := blk_cell hx.b1 0
  have zg := blk_lt hx.b2
  have z0 : g < W.heap.size := by omega
  have z1 : g + 1 < W.heap.size := by omega
  clear hT hx hE
  go_enter Tryz.func66, Tryz.ntmps66
  go_wp2_with fail
  refine Reg.wp_region_puts (A := [[], [], [1], [0, 2, 1], [], [4, 3, 0, 2, 1]]) (effs := [2, 3, 4, 5]) (N := 24)
    (val := fun i r => match i with | 0 => .pointer (some ⟨rb, 0, none⟩) | 1 => .string s | _ => undef)
    (Stage := fun rs wx => rs 2 = none ∧ Below W.heap.size W wx)
    (fun rs => [(some 4, .pointer (some ⟨rb, 0, none⟩)), (some 5, .string s), (some 6, (rs 2).getD undef), (some 7, (rs 3).getD undef), (some 3, (rs 4).getD undef), (none, (rs 5).getD undef)])
    (by kernel_rfl) (by kernel_rfl) rfl (fun _ => rfl) ?h0 ?hob ?hend
  case hob =>
    intro i hi
    match i, hi with
    | 0, _ => exact Reg.Ob.pure rfl rfl rfl (fun rs => .pointer (some ⟨rb, 0, none⟩)) (fun _ => rfl) (fun rs wx a hs hd hl hk => by
        have e0 : (a.tmps[0]?).getD undef = .pointer (some ⟨g, 0, none⟩) := hk 0 (by decide)
        have c : wx.cell? ⟨g, 0, none⟩ = some (.pointer (some ⟨rb, 0, none⟩)) := (hs.2.cell (p := ⟨g, 0, none⟩) z0).trans c0
        go_simp)
    | 1, _ => exact Reg.Ob.pure rfl rfl rfl (fun rs => .string s) (fun _ => rfl) (fun rs wx a hs hd hl hk => by
        have e1 : (a.tmps[1]?).getD undef = .pointer (some ⟨g + 1, 0, none⟩) := hk 1 (by decide)
        have c : wx.cell? ⟨g + 1, 0, none⟩ = some (.string s) := (hs.2.cell (p := ⟨g + 1, 0, none⟩) z1).trans c1
        go_simp)
    | 2, _ =>
      refine Reg.Ob.effd rfl rfl rfl ?_
      intro rs wx a hs hd hn hl hk hdf K hK
      have e5 : (a.tmps[5]?).getD undef = .string s := hk 5 (by decide)
      have C := Lib.hid (C1.out wx hs.2)
      have HS := Lib.hid hs
      clear hs hn hd hl hk hK
      go_simp
      refine C.out.mono ?_
      rintro e w5 ⟨rfl, hb⟩
      exact ⟨hdf, rfl, HS.out.2.trans (hb.mono HS.out.2.size)⟩
    | 3, _ =>
      refine Reg.Ob.eff rfl rfl rfl ?_
      intro rs wx a hs hd hn hl hk K hK
      have e4 : (a.tmps[4]?).getD undef = .pointer (some ⟨rb, 0, none⟩) := hk 4 (by decide)
      have e6 : (a.tmps[6]?).getD undef = ((rs 2).getD undef) := hk 6 (by decide)
      obtain ⟨u, hu⟩ := hd 2 (by decide) (by decide)
      rw [hs.1] at hu
      cases hu
    | 4, _ =>
      refine Reg.Ob.eff rfl rfl rfl ?_
      intro rs wx a hs hd hn hl hk K hK
      have HS := Lib.hid hs
      have HKK := Lib.hid hK
      clear hs hn hd hl hk hK
      go_simp
      exact HKK.out _ _ ⟨HS.out.1, HS.out.2.alloc HS.out.2.size _⟩
    | 5, _ =>
      refine Reg.Ob.eff rfl rfl rfl ?_
      intro rs wx a hs hd hn hl hk K hK
      have e3 : (a.tmps[3]?).getD undef = ((rs 4).getD undef) := hk 3 (by decide)
      have e7 : (a.tmps[7]?).getD undef = ((rs 3).getD undef) := hk 7 (by decide)
      obtain ⟨u, hu⟩ := hd 2 (by decide) (by decide)
      rw [hs.1] at hu
      cases hu
    | n + 6, h => exact absurd h (by simp <;> omega)
  case h0 =>
    exact ⟨rfl, (Below.refl _ _).drew⟩
  case hend =>
    intro rs wx hs hd
    obtain ⟨u, hu⟩ := hd 2 (by decide) (by decide)
    rw [hs.1] at hu
    cases hu

theorem drop_fin {W w1 w6 : World} {B rb mb n m6 g : Nat} {D6 : DataW Value} {R' : RS} {contact name : ByteArray} {kept : Bool} {groups : List ByteArray} {o hn2 i m : Int} {A : Option Addr} {c : Nat} {x0 x1 x2 x3 x4 x5 x6 x7 : Value} (hbW : Below W.heap.size W w1) (hn6 : m6 ≤ n + 1) (hro6 : RoAt w6 B rb mb m6 D6 R') (hu6 : Upd w1.heap.size (fun k => k = rb ∨ k = mb) w1 w6)
    (hb2 : w6.heap[g + 2]? = some (.cells #[x0, x1, x2, x3, x4, x5, x6, x7] 54)) (hgr6 : Grp w6 W.heap.size (.slice A groups.length c) groups) (hg : rb < g ∧ mb < g) (hlt : g + 2 < w1.heap.size) {v : Int} (hgW : g + 2 < W.heap.size) :
    DropDone W (((((((((w6.setCell ⟨rb, 2, none⟩ (.int .u64 v)).setCell ⟨g + 2, 0, none⟩ (.string contact)).setCell ⟨g + 2, 1, none⟩ (.bool kept)).setCell ⟨g + 2, 2, none⟩ (.string name)).setCell ⟨g + 2, 3, none⟩ (.slice A groups.length c)).setCell ⟨g + 2, 4, none⟩ (.int .i64 o)).setCell ⟨g + 2, 5, none⟩ (.int .u64 hn2)).setCell ⟨g + 2, 6, none⟩ (.int .i64 i)).setCell ⟨g + 2, 7, none⟩ (.int .u64 m)) B rb mb n g { R' with ver := v } ⟨contact, kept, name, groups, ⟨o, hn2, i, m⟩⟩ := by
  have hro7 : RoAt (w6.setCell ⟨rb, 2, none⟩ (.int .u64 v)) B rb mb m6 D6 { R' with ver := v } := RoAtK.field hro6 2 _ rfl rfl
  have hg7 := blk_set_other hb2 (a := (⟨rb, 2, none⟩ : Addr)) (.int .u64 v) (by show g + 2 ≠ rb; omega)
  have hs8 := upd_set8 (B := (w6.setCell ⟨rb, 2, none⟩ (.int .u64 v)).heap.size) (ks := fun k => k = g + 2) (b := g + 2) (Upd.refl _ _ (w6.setCell ⟨rb, 2, none⟩ (.int .u64 v))) (.inl rfl) (.string contact) (.bool kept) (.string name) (.slice A groups.length c) (.int .i64 o) (.int .u64 hn2) (.int .i64 i) (.int .u64 m)
  have hz6 := hu6.size
  have hzW := hbW.size
  refine ⟨⟨m6, D6, hn6, ?_⟩, ?_, A, c, blk_set8 hg7 _ _ _ _ _ _ _ _, ?_⟩
  · refine RoAtK.upd hro7 hs8 (Nat.le_refl _) (fun e => by omega) (fun e => by omega) (fun k cur hk _ e => ?_)
    subst e
    rw [hg7] at hk
    simp at hk
  · refine (((Upd.of_below hbW (Nat.le_refl _)).comp hu6 (by omega) (fun k hlt e => ?_)).setCell (.inl (.inl rfl)) _).comp hs8 (by simp; omega) (fun k hlt e => .inr (.inr e))
    rcases e with e | e
    · exact .inl e
    · exact .inr (.inl e)
  · refine hgr6.kept (fun k cur hk hWk => (hs8.block k (by simpa using blk_lt hk) (fun e => by omega)).trans (Below.heap_setCell w6 ⟨rb, 2, none⟩ _ k (show k ≠ rb by omega)))

set_option maxRecDepth 100000 in
set_option maxHeartbeats 16000000 in
theorem drop1_go {W : World} {B rb mb n : Nat} {D : DataW Value} {R : RS} (h : RoAt W B rb mb n D R) (hT : Tabs W) (g : Nat) (s : ByteArray) (hs : s.size ≤ 9223372036854775807)
    (hx : DropBox W g rb s Ent.zero (.slice none 0 0)) (hn : n ≤ 1000000) (hB : B ≤ W.heap.size) (hg : rb < g ∧ mb < g) (hv0 : 0 ≤ R.ver) (hv1 : R.ver < 18446744073709551615) (hE : (localS s).2 = 0) :
    Calls Tryz.prog 66 (dropCaps g) W fun e w' =>
      if (R.entry (localS s).1).kept = false then e = .panicked [{ v := rfailsV 7, recovered := false }] ∧ Below W.heap.size W w'
      else e = .returned (.tuple #[]) ∧ DropDone W w' B rb mb n g { R.set (Ent.new (R.entry (localS s).1).contact) with ver := R.ver + 1 } (R.entry (localS s).1) := by
  have hcs := localS_le s
  have C1 := Lib.hid (fun W' (hW : Below W.heap.size W W') => rlocal_ok s W' (hT.later hW) hs hE)
  obtain ⟨x, hxx⟩ : ∃ x, (localS s).1 = x := ⟨_, rfl⟩
  rw [hxx] at C1 hcs ⊢
  have hsm := entry_small h x (by unfold maxLen; omega)
  have C3 := Lib.hid (fun W' (hW : Below W.heap.size W W') => rentry_any (h.below hW) x (by unfold maxLen; omega))
  obtain ⟨it, hit⟩ : ∃ it, R.entry x = it := ⟨_, rfl⟩
  rw [hit] at hsm C3 ⊢
  have c0 : W.cell? ⟨g, 0, none⟩ = some (.pointer (some ⟨rb, 0, none⟩)) := blk_cell hx.b0 0
  have c1 : W.cell? ⟨g + 1, 0, none⟩ = some (.string s) := blk_cell hx.b1 0
  have zg := blk_lt hx.b2
  have z0 : g < W.heap.size := by omega
  have z1 : g + 1 < W.heap.size := by omega
  obtain ⟨P7, hP7⟩ : ∃ P7 : Ending → World → Prop, P7 = fun e w' => if it.kept = false then e = .panicked [{ v := rfailsV 7, recovered := false }] ∧ Below W.heap.size W w' else e = .returned (.tuple #[]) ∧ DropDone W w' B rb mb n g { R.set (Ent.new it.contact) with ver := R.ver + 1 } it := ⟨_, rfl⟩
  show Calls Tryz.prog 66 (dropCaps g) W (fun e w' => (fun e w' => if it.kept = false then e = .panicked [{ v := rfailsV 7, recovered := false }] ∧ Below W.heap.size W w' else e = .returned (.tuple #[]) ∧ DropDone W w' B rb mb n g { R.set (Ent.new it.contact) with ver := R.ver + 1 } it) e w')
  rw [← hP7]
  have H := Lib.hid (And.intro h (And.intro hT (And.intro hx (And.intro hsm (And.intro hit hP7)))))
  clear h hT hx hE hsm hit hcs hxx hP7
  go_enter Tryz.func66, Tryz.ntmps66
  go_wp2_with fail
  refine Reg.wp_region_puts (A := [[], [], [1], [0, 2, 1], [], [4, 3, 0, 2, 1]]) (effs := [2, 3, 4, 5]) (N := 24)
    (val := fun i r => match i with | 0 => .pointer (some ⟨rb, 0, none⟩) | 1 => .string s | _ => undef)
    (Stage := fun rs wx => DropStage W wx x it rs)
    (fun rs => [(some 4, .pointer (some ⟨rb, 0, none⟩)), (some 5, .string s), (some 6, (rs 2).getD undef), (some 7, (rs 3).getD undef), (some 3, (rs 4).getD undef), (none, (rs 5).getD undef)])
    (by kernel_rfl) (by kernel_rfl) rfl (fun _ => rfl) ?h0 ?hob ?hend
  case hob =>
    intro i hi
    match i, hi with
    | 0, _ => exact Reg.Ob.pure rfl rfl rfl (fun rs => .pointer (some ⟨rb, 0, none⟩)) (fun _ => rfl) (fun rs wx a hs hd hl hk => by
        have e0 : (a.tmps[0]?).getD undef = .pointer (some ⟨g, 0, none⟩) := hk 0 (by decide)
        have c : wx.cell? ⟨g, 0, none⟩ = some (.pointer (some ⟨rb, 0, none⟩)) := (hs.below.cell (p := ⟨g, 0, none⟩) z0).trans c0
        go_simp)
    | 1, _ => exact Reg.Ob.pure rfl rfl rfl (fun rs => .string s) (fun _ => rfl) (fun rs wx a hs hd hl hk => by
        have e1 : (a.tmps[1]?).getD undef = .pointer (some ⟨g + 1, 0, none⟩) := hk 1 (by decide)
        have c : wx.cell? ⟨g + 1, 0, none⟩ = some (.string s) := (hs.below.cell (p := ⟨g + 1, 0, none⟩) z1).trans c1
        go_simp)
    | 2, _ =>
      refine Reg.Ob.eff rfl rfl rfl ?_
      intro rs wx a hs hd hn hl hk K hK
      have e5 : (a.tmps[5]?).getD undef = .string s := hk 5 (by decide)
      have C := Lib.hid (C1.out wx hs.below)
      have HS := Lib.hid hs
      have HN := Lib.hid (And.intro (hl 3 (by decide)) (hl 5 (by decide)))
      have HKK := Lib.hid hK
      clear hs hn hd hl hk hK
      go_simp
      refine C.out.mono ?_
      rintro e w5 ⟨rfl, hb⟩
      refine HKK.out _ _ ⟨HS.out.below.trans (hb.mono HS.out.below.size), fun u hu => (by have : some (Value.string x) = some u := hu; cases this; rfl), fun u hu => ?_, fun u hu => ?_⟩
      · obtain ⟨b, e1, e2, e3⟩ := HS.out.al u (by simpa [Reg.upd] using hu)
        exact ⟨b, e1, e2, fun h5 => blk_below (e3 HN.out.2) hb (blk_lt (e3 HN.out.2))⟩
      · have : rs 3 = some u := by simpa [Reg.upd] using hu
        rw [HN.out.1] at this
        cases this
    | 3, _ =>
      refine Reg.Ob.eff rfl rfl rfl ?_
      intro rs wx a hs hd hn hl hk K hK
      have e4 : (a.tmps[4]?).getD undef = .pointer (some ⟨rb, 0, none⟩) := hk 4 (by decide)
      have e6 : (a.tmps[6]?).getD undef = ((rs 2).getD undef) := hk 6 (by decide)
      obtain ⟨u, hu⟩ := hd 2 (by decide) (by decide)
      obtain rfl := hs.loc u hu
      rw [hu] at e6
      simp only [Option.getD_some] at e6
      have C := Lib.hid (C3.out wx hs.below)
      have HS := Lib.hid hs
      have HN := Lib.hid (hl 5 (by decide))
      have HKK := Lib.hid hK
      clear hs hn hd hl hk hK hu
      go_simp
      refine C.out.mono ?_
      rintro e w5 ⟨⟨A, c, rfl, hg⟩, hb⟩
      refine HKK.out _ _ ⟨HS.out.below.trans (hb.mono HS.out.below.size), fun u hu => HS.out.loc u (by simpa [Reg.upd] using hu), fun u hu => ?_, fun u hu => ?_⟩
      · obtain ⟨b, e1, e2, e3⟩ := HS.out.al u (by simpa [Reg.upd] using hu)
        exact ⟨b, e1, e2, fun h5 => blk_below (e3 HN.out) hb (blk_lt (e3 HN.out))⟩
      · have : some (it.val (.slice A it.groups.length c)) = some u := hu
        cases this
        refine ⟨A, c, rfl, hg.lower HS.out.below.size, fun z hz => ?_⟩
        have : rs 5 = some z := by simpa [Reg.upd] using hz
        rw [HN.out] at this
        cases this
    | 4, _ =>
      refine Reg.Ob.eff rfl rfl rfl ?_
      intro rs wx a hs hd hn hl hk K hK
      have HS := Lib.hid hs
      have HN := Lib.hid (hl 5 (by decide))
      have HKK := Lib.hid hK
      clear hs hn hd hl hk hK
      go_simp
      refine HKK.out _ _ ⟨HS.out.below.alloc HS.out.below.size _, fun u hu => HS.out.loc u (by simpa [Reg.upd] using hu), fun u hu => ?_, fun u hu => ?_⟩
      · have : some (Value.pointer (some ⟨wx.heap.size, 0, none⟩)) = some u := hu
        cases this
        exact ⟨_, rfl, HS.out.below.size, fun _ => blk_new _ _⟩
      · obtain ⟨A, c, e1, e2, e3⟩ := HS.out.res u (by simpa [Reg.upd] using hu)
        refine ⟨A, c, e1, e2.below ((Below.refl _ _).alloc (Nat.le_refl _) _), fun z hz => ?_⟩
        have : rs 5 = some z := by simpa [Reg.upd] using hz
        rw [HN.out] at this
        cases this
    | 5, _ =>
      refine Reg.Ob.eff rfl rfl rfl ?_
      intro rs wx a hs hd hn hl hk K hK
      have e3 : (a.tmps[3]?).getD undef = ((rs 4).getD undef) := hk 3 (by decide)
      have e7 : (a.tmps[7]?).getD undef = ((rs 3).getD undef) := hk 7 (by decide)
      obtain ⟨u, hu⟩ := hd 4 (by decide) (by decide)
      obtain ⟨v, hv⟩ := hd 3 (by decide) (by decide)
      obtain ⟨b, rfl, hbW, hbx⟩ := hs.al u hu
      obtain ⟨A, c, rfl, hg, _⟩ := hs.res v hv
      have hbx := hbx hn
      rw [hu] at e3
      rw [hv] at e7
      simp only [Option.getD_some] at e3 e7
      obtain ⟨contact, kept, name, groups, ⟨o, hn2, i, m⟩⟩ := it
      obtain ⟨x0, x1, x2, x3, x4, x5, x6, x7, f0, f1, f2, f3, f4, f5, f6, f7⟩ := cells8 hbx
      have HS := Lib.hid (And.intro hs.below (And.intro hs.loc (And.intro hbW (And.intro hbx (And.intro hg (And.intro hu hv))))))
      have HKK := Lib.hid hK
      clear hs hn hd hl hk hK hu hv hbx hg hbW
      go_simp
      obtain ⟨hB, hloc, hbW, hbx, hg, hu, hv⟩ := HS.out
      have hs8 := upd_set8 (b := b) (ks := fun k => k = b) (Upd.refl wx.heap.size _ wx) (.inl rfl) (.string contact) (.bool kept) (.string name) (.slice A groups.length c) (.int .i64 o) (.int .u64 hn2) (.int .i64 i) (.int .u64 m)
      refine HKK.out undef _ ⟨hB.trans (hs8.below (B := W.heap.size) (fun k e => by omega) hB.size), fun u hu => hloc u (by simpa [Reg.upd] using hu), fun u' hu' => ?_, fun u' hu' => ?_⟩
      · have : rs 4 = some u' := by simpa [Reg.upd] using hu'
        rw [hu] at this
        cases this
        exact ⟨b, rfl, hbW, fun h => by simp [Reg.upd] at h⟩
      · have : rs 3 = some u' := by simpa [Reg.upd] using hu'
        rw [hv] at this
        cases this
        refine ⟨A, c, rfl, hg.kept fun k cur hk _ => hs8.block k (blk_lt hk) (fun e => ?_), fun z _ => ⟨b, by simpa [Reg.upd] using hu, blk_set8 hbx _ _ _ _ _ _ _ _⟩⟩
        subst e
        rw [hbx] at hk
        simp at hk
    | n + 6, h => exact absurd h (by simp <;> omega)
  case h0 =>
    exact ⟨(Below.refl _ _).drew, fun u hu => (by cases hu), fun u hu => (by cases hu), fun u hu => (by cases hu)⟩
  case hend =>
    intro rs wx hs hd
    obtain ⟨u2, hu2⟩ := hd 2 (by decide) (by decide)
    obtain ⟨u3, hu3⟩ := hd 3 (by decide) (by decide)
    obtain ⟨u4, hu4⟩ := hd 4 (by decide) (by decide)
    obtain ⟨u5, hu5⟩ := hd 5 (by decide) (by decide)
    obtain ⟨b', rfl, hbW, _⟩ := hs.al u4 hu4
    obtain ⟨A, c, rfl, hgr, hbb⟩ := hs.res u3 hu3
    obtain ⟨b, hb4, hbox⟩ := hbb u5 hu5
    obtain rfl : b' = b := by rw [hu4] at hb4; simpa using hb4
    obtain rfl := hs.loc u2 hu2
    obtain ⟨h, hT, hx, hsm, hit, hP7⟩ := H.out
    have hx2 := hx.below hs.below
    have hro2 := h.below hs.below
    have d0 : wx.cell? ⟨g, 0, none⟩ = some (.pointer (some ⟨rb, 0, none⟩)) := blk_cell hx2.b0 0
    obtain ⟨contact, kept, name, groups, ⟨o, hn2, i, m⟩⟩ := it
    simp only at hsm hgr hbox hP7
    obtain ⟨y0, y1, y2, y3, y4, y5, y6, y7, _⟩ := cells8 hbox
    have hlt := h.lt
    have zb := blk_lt hbox
    have hzz := hs.below.size
    have C5 := rset_any hro2 (Ent.new contact) (.slice none 0 0) (Grp.nil wx 0).strs (by simp [Ent.new]) hsm.2 hn (Nat.le_trans hB hs.below.size)
    have hset := RS.set_ver R (Ent.new contact)
    have HH := Lib.hid (And.intro hs.below (And.intro hx2 (And.intro hro2 (And.intro hbox (And.intro hgr (And.intro hset hP7))))))
    simp only [List.foldl_cons, List.foldl_nil, Act.put, List.setIfInBounds_toArray, List.set_cons_zero, List.set_cons_succ]
    rw [hu2, hu3, hu4]
    simp only [Option.getD_some, Ent.val, Ent.new] at C5 ⊢
    have HC5 := Lib.hid C5
    clear hs hd hb4 hbox hbb hu2 hu3 hu4 hu5 h hT hx hsm hit hP7 hx2 hro2 hgr hset C5 c0 c1 C1 C3 H
    cases kept with
    | false =>
      go_wp2_with fail
      refine (rmust_no 7 (by decide) _).mono ?_
      rintro e w3 ⟨rfl, rfl⟩
      go_wp2_with fail
      refine ⟨rfl, ?_⟩
      rw [HH.out.2.2.2.2.2.2]
      exact ⟨rfl, HH.out.1⟩
    | true =>
      go_wp2_with fail
      refine (rmust_yes 7 _).mono ?_
      rintro e w3 ⟨rfl, rfl⟩
      go_wp2_with fail
      refine HC5.out.mono ?_
      rintro e w6 ⟨rfl, ⟨m6, D6, hn6, hro6⟩, hu6⟩
      obtain ⟨hbW2, hx5, hro2, hbox, hgr, hset, hP7⟩ := HH.out
      have zg2 := blk_lt hx5.b2
      have hbx6 := blk_upd hbox hu6 (blk_lt hbox) (by rintro (e | e) <;> omega)
      have hx6 := hx5.upd hu6 (Nat.le_refl _) (fun j hj e => by rcases e with e | e <;> omega)
      have hgr6 : Grp w6 W.heap.size (.slice A groups.length c) groups := hgr.kept (fun k cur hk hWk => hu6.block k (blk_lt hk) (by rintro (e | e) <;> omega))
      have d0 : w6.cell? ⟨g, 0, none⟩ = some (.pointer (some ⟨rb, 0, none⟩)) := blk_cell hx6.b0 0
      have r2 : w6.cell? ⟨rb, 2, none⟩ = some (.int .u64 R.ver) := by rw [← hset.1]; exact blk_cell hro6.cells 2
      have rz2 : w6.frozen? ⟨rb, 2, none⟩ = false := blk_frozen hro6.cells 2
      obtain ⟨y0, y1, y2, y3, y4, y5, y6, y7, _⟩ := cells8 hbx6
      obtain ⟨x0, x1, x2, x3, x4, x5, x6, x7, f0, f1, f2, f3, f4, f5, f6, f7⟩ := cells8 hx6.b2
      have n1 : ¬ rb = b' := by omega
      have n2 : ¬ b' = rb := by omega
      have n3 : ¬ rb = g + 2 := by omega
      have n4 : ¬ g + 2 = rb := by omega
      have n5 : ¬ b' = g + 2 := by have := blk_lt hx5.b2; omega
      have n6 : ¬ g + 2 = b' := by omega
      have wv : IntKind.u64.wrap (R.ver + 1) = R.ver + 1 := IntWalk.u64_in _ (by omega)
      have H6 := Lib.hid (And.intro hn6 (And.intro hro6 (And.intro hu6 (And.intro hbx6 (And.intro hx6 hgr6)))))
      clear hbW2 hx5 hro2 hbox hgr hset hP7 hn6 hro6 hu6 hbx6 hx6 hgr6 HC5
      go_wp2_with fail
      go_end0
      obtain ⟨hbW2, hx5, hro2, hbox, hgr, hset, hP7⟩ := HH.out
      obtain ⟨hn6, hro6, hu6, hbx6, hx6, hgr6⟩ := H6.out
      rw [hP7]
      refine (show _ = _ ∧ _ from ⟨rfl, ?_⟩)
      exact drop_fin hbW2 hn6 hro6 hu6 hx6.b2 hgr6 hg (blk_lt hx5.b2) zg

theorem drop1_any {W : World} {B rb mb n : Nat} {D : DataW Value} {R : RS} (h : RoAt W B rb mb n D R) (hT : Tabs W) (g : Nat) (s : ByteArray) (hs : s.size ≤ 9223372036854775807)
    (hx : DropBox W g rb s Ent.zero (.slice none 0 0)) (hn : n ≤ 1000000) (hB : B ≤ W.heap.size) (hg : rb < g ∧ mb < g) (hv0 : 0 ≤ R.ver) (hv1 : R.ver < 18446744073709551615) :
    Calls Tryz.prog 66 (dropCaps g) W fun e w' => DropPost W B rb mb n g (R.dropAll s).1 (R.dropAll s).2.1 (R.dropAll s).2.2 e w' := by
  unfold RS.dropAll
  by_cases hE : (localS s).2 = 0
  · rw [if_neg (by simpa using hE)]
    refine (drop1_go h hT g s hs hx hn hB hg hv0 hv1 hE).mono fun e w' hp => ?_
    by_cases hk : (R.entry (localS s).1).kept = false
    · rw [if_pos hk] at hp ⊢
      exact .inl ⟨by simp, hp.1, hp.2⟩
    · rw [if_neg hk] at hp ⊢
      exact .inr ⟨rfl, hp.1, hp.2⟩
  · rw [if_pos hE]
    exact (drop1_name hT hs hx hE).mono fun e w' ⟨a, b⟩ => .inl ⟨hE, a, b⟩

end Go.Proofs.YthbjcihdlhkboaaGreatDoor
