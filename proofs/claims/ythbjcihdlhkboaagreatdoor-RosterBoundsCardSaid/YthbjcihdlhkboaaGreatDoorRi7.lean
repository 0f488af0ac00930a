/- Drop. -/
import Derived.Test.YthbjcihdlhkboaaGreatDoorRi6
namespace Go.Proofs.YthbjcihdlhkboaaGreatDoor
set_option linter.unusedSimpArgs false
set_option linter.unusedVariables false
open Go.RowKit Go.Maps Go.Shelf Go.Lib

/-- The variables that the closure of Drop has caught. -/
structure DropBox (W : World) (g rb : Nat) (s : ByteArray) (x : Ent) (xg : Value) : Prop where
  b0 : W.heap[g]? = some (.cells #[.pointer (some ⟨rb, 0, none⟩)] 42)
  b1 : W.heap[g + 1]? = some (.cells #[.string s] 9)
  b2 : W.heap[g + 2]? = some (entC x xg)
abbrev dropCaps (g : Nat) : Array Value := #[.pointer (some ⟨g, 0, none⟩), .pointer (some ⟨g + 1, 0, none⟩), .pointer (some ⟨g + 2, 0, none⟩)]
theorem DropBox.below {W W' : World} {g rb : Nat} {s : ByteArray} {x : Ent} {xg : Value} (h : DropBox W g rb s x xg) (hb : Below W.heap.size W W') : DropBox W' g rb s x xg :=
  ⟨blk_below h.b0 hb (blk_lt h.b0), blk_below h.b1 hb (blk_lt h.b1), blk_below h.b2 hb (blk_lt h.b2)⟩
theorem DropBox.upd {W W' : World} {g rb : Nat} {s : ByteArray} {x : Ent} {xg : Value} (h : DropBox W g rb s x xg) {C : Nat} {ks : Nat → Prop} (hu : Upd C ks W W') (hC : W.heap.size ≤ C) (hk : ∀ j, j < 3 → ¬ ks (g + j)) : DropBox W' g rb s x xg :=
  ⟨blk_upd h.b0 hu (by have := blk_lt h.b0; omega) (hk 0 (by omega)), blk_upd h.b1 hu (by have := blk_lt h.b1; omega) (hk 1 (by omega)), blk_upd h.b2 hu (by have := blk_lt h.b2; omega) (hk 2 (by omega))⟩

structure DropDone (W w' : World) (B rb mb n g : Nat) (R : RS) (e : Ent) : Prop where
  ro : ∃ n' D', n' ≤ n + 1 ∧ RoAt w' B rb mb n' D' R
  upd : Upd W.heap.size (fun k => k = rb ∨ k = mb ∨ k = g + 2) W w'
  b2 : ∃ A c, w'.heap[g + 2]? = some (entC e (.slice A e.groups.length c)) ∧ Grp w' W.heap.size (.slice A e.groups.length c) e.groups
def DropPost (W : World) (B rb mb n g : Nat) (R : RS) (e : Ent) (c : Int) (r : Ending) (w' : World) : Prop :=
  (c ≠ 0 ∧ r = .panicked [{ v := rfailsV c, recovered := false }] ∧ Below W.heap.size W w') ∨ (c = 0 ∧ r = .returned (.tuple #[]) ∧ DropDone W w' B rb mb n g R e)

/-- Drop's first region: a box is made for the entry, which is looked for meanwhile. -/
structure DropStage (W wx : World) (x : ByteArray) (it : Ent) (rs : Nat → Option Value) : Prop where
  below : Below W.heap.size W wx
  loc : ∀ u, rs 2 = some u → u = .string x
  al : ∀ u, rs 4 = some u → ∃ b, u = .pointer (some ⟨b, 0, none⟩) ∧ W.heap.size ≤ b ∧ (rs 5 = none → wx.heap[b]? = some (entC (Ent.new ⟨#[]⟩) (.slice none 0 0)))
  res : ∀ u, rs 3 = some u → ∃ A c, u = it.val (.slice A it.groups.length c) ∧ Grp wx W.heap.size (.slice A it.groups.length c) it.groups ∧ (∀ z, rs 5 = some z → ∃ b, rs 4 = some (.pointer (some ⟨b, 0, none⟩)) ∧ wx.heap[b]? = some (entC it (.slice A it.groups.length c)))

set_option maxRecDepth 100000 in
set_option maxHeartbeats 8000000 in
theorem drop1_name {W : World} {g rb : Nat} {s : ByteArray} {x : Ent} {xg : Value} (hT : Tabs W) (hs : s.size ≤ 9223372036854775807) (hx : DropBox W g rb s x xg) (hE : (localS s).2 ≠ 0) :
    Calls Tryz.prog 66 (dropCaps g) W fun e w' => e = .panicked [{ v := rfailsV (localS s).2, recovered := false }] ∧ Below W.heap.size W w' := by
  have C1 := Lib.hid (fun W' (hW : Below W.heap.size W W') => rlocal_no s W' (hT.later hW) hs hE)
  generalize (localS s).2 = c at *
  have c0 : W.cell? ⟨g, 0, none⟩ = some (.pointer (some ⟨rb, 0, none⟩)) := blk_cell hx.b0 0
  have c1 : W.cell? ⟨g + 1, 0, none⟩ = some (.string s) := blk_cell hx.b1 0
  have zg := blk_lt hx.b2
  have z0 : g < W.heap.size := by omega
  have z1 : g + 1 < W.heap.size := by omega
  clear hT hx hE
  go_enter Tryz.func66, Tryz.ntmps66
  go_wp2_with fail
  refine Reg.wp_region_puts (A := [[], [], [1], [0, 2, 1], [], [4, 3, 0, 2, 1]]) (effs := [2, 3, 4, 5]) (N := 24)
    (val := fun i r => match i with | 0 => .pointer (some ⟨rb, 0, none⟩) | 1 => .string s | _ => undef)
    (Stage := fun rs wx => rs 2 = none ∧ Below W.heap.size W wx)
    (fun rs => [(some 4, .pointer (some ⟨rb, 0, none⟩)), (some 5, .string s), (some 6, (rs 2).getD undef), (some 7, (rs 3).getD undef), (some 3, (rs 4).getD undef), (none, (rs 5).getD undef)])
    (by kernel_rfl) (by kernel_rfl) rfl (fun _ => rfl) ?h0 ?hob ?hend
  case hob =>
    intro i hi
    match i, hi with
    | 0, _ => exact Reg.Ob.pure rfl rfl rfl (fun rs => .pointer (some ⟨rb, 0, none⟩)) (fun _ => rfl) (fun rs wx a hs hd hl hk => by
        have e0 : (a.tmps[0]?).getD undef = .pointer (some ⟨g, 0, none⟩) := hk 0 (by decide)
        have c : wx.cell? ⟨g, 0, none⟩ = some (.pointer (some ⟨rb, 0, none⟩)) := (hs.2.cell (p := ⟨g, 0, none⟩) z0).trans c0
        go_simp)
    | 1, _ => exact Reg.Ob.pure rfl rfl rfl (fun rs => .string s) (fun _ => rfl) (fun rs wx a hs hd hl hk => by
        have e1 : (a.tmps[1]?).getD undef = .pointer (some ⟨g + 1, 0, none⟩) := hk 1 (by decide)
        have c : wx.cell? ⟨g + 1, 0, none⟩ = some (.string s) := (hs.2.cell (p := ⟨g + 1, 0, none⟩) z1).trans c1
        go_simp)
    | 2, _ =>
      refine Reg.Ob.effd rfl rfl rfl ?_
      intro rs wx a hs hd hn hl hk hdf K hK
      have e5 : (a.tmps[5]?).getD undef = .string s := hk 5 (by decide)
      have C := Lib.hid (C1.out wx hs.2)
      have HS := Lib.hid hs
      clear hs hn hd hl hk hK
      go_simp
      refine C.out.mono ?_
      rintro e w5 ⟨rfl, hb⟩
      exact ⟨hdf, rfl, HS.out.2.trans (hb.mono HS.out.2.size)⟩
    | 3, _ =>
      refine Reg.Ob.eff rfl rfl rfl ?_
      intro rs wx a hs hd hn hl hk K hK
      have e4 : (a.tmps[4]?).getD undef = .pointer (some ⟨rb, 0, none⟩) := hk 4 (by decide)
      have e6 : (a.tmps[6]?).getD undef = ((rs 2).getD undef) := hk 6 (by decide)
      obtain ⟨u, hu⟩ := hd 2 (by decide) (by decide)
      rw [hs.1] at hu
      cases hu
    | 4, _ =>
      refine Reg.Ob.eff rfl rfl rfl ?_
      intro rs wx a hs hd hn hl hk K hK
      have HS := Lib.hid hs
      have HKK := Lib.hid hK
      clear hs hn hd hl hk hK
      go_simp
      exact HKK.out _ _ ⟨HS.out.1, HS.out.2.alloc HS.out.2.size _⟩
    | 5, _ =>
      refine Reg.Ob.eff rfl rfl rfl ?_
      intro rs wx a hs hd hn hl hk K hK
      have e3 : (a.tmps[3]?).getD undef = ((rs 4).getD undef) := hk 3 (by decide)
      have e7 : (a.tmps[7]?).getD undef = ((rs 3).getD undef) := hk 7 (by decide)
      obtain ⟨u, hu⟩ := hd 2 (by decide) (by decide)
      rw [hs.1] at hu
      cases hu
    | n + 6, h => exact absurd h (by simp <;> omega)
  case h0 =>
    exact ⟨rfl, (Below.refl _ _).drew⟩
  case hend =>
    intro rs wx hs hd
    obtain ⟨u, hu⟩ := hd 2 (by decide) (by decide)
    rw [hs.1] at hu
    cases hu

theorem drop_fin {W w1 w6 : World} {B rb mb n m6 g : Nat} {D6 : DataW Value} {R' : RS} {contact name : ByteArray} {kept : Bool} {groups : List ByteArray} {o hn2 i m : Int} {A : Option Addr} {c : Nat} {x0 x1 x2 x3 x4 x5 x6 x7 : Value} (hbW : Below W.heap.size W w1) (hn6 : m6 ≤ n + 1) (hro6 : RoAt w6 B rb mb m6 D6 R') (hu6 : Upd w1.heap.size (fun k => k = rb ∨ k = mb) w1 w6)
    (hb2 : w6.heap[g + 2]? = some (.cells #[x0, x1, x2, x3, x4, x5, x6, x7] 54)) (hgr6 : Grp w6 W.heap.size (.slice A groups.length c) groups) (hg : rb < g ∧ mb < g) (hlt : g + 2 < w1.heap.size) {v : Int} (hgW : g + 2 < W.heap.size) :
    DropDone W (((((((((w6.setCell ⟨rb, 2, none⟩ (.int .u64 v)).setCell ⟨g + 2, 0, none⟩ (.string contact)).setCell ⟨g + 2, 1, none⟩ (.bool kept)).setCell ⟨g + 2, 2, none⟩ (.string name)).setCell ⟨g + 2, 3, none⟩ (.slice A groups.length c)).setCell ⟨g + 2, 4, none⟩ (.int .i64 o)).setCell ⟨g + 2, 5, none⟩ (.int .u64 hn2)).setCell ⟨g + 2, 6, none⟩ (.int .i64 i)).setCell ⟨g + 2, 7, none⟩ (.int .u64 m)) B rb mb n g { R' with ver := v } ⟨contact, kept, name, groups, ⟨o, hn2, i, m⟩⟩ := by
  have hro7 : RoAt (w6.setCell ⟨rb, 2, none⟩ (.int .u64 v)) B rb mb m6 D6 { R' with ver := v } := RoAtK.field hro6 2 _ rfl rfl
  have hg7 := blk_set_other hb2 (a := (⟨rb, 2, none⟩ : Addr)) (.int .u64 v) (by show g + 2 ≠ rb; omega)
  have hs8 := upd_set8 (B := (w6.setCell ⟨rb, 2, none⟩ (.int .u64 v)).heap.size) (ks := fun k => k = g + 2) (b := g + 2) (Upd.refl _ _ (w6.setCell ⟨rb, 2, none⟩ (.int .u64 v))) (.inl rfl) (.string contact) (.bool kept) (.string name) (.slice A groups.length c) (.int .i64 o) (.int .u64 hn2) (.int .i64 i) (.int .u64 m)
  have hz6 := hu6.size
  have hzW := hbW.size
  refine ⟨⟨m6, D6, hn6, ?_⟩, ?_, A, c, blk_set8 hg7 _ _ _ _ _ _ _ _, ?_⟩
  · refine RoAtK.upd hro7 hs8 (Nat.le_refl _) (fun e => by omega) (fun e => by omega) (fun k cur hk _ e => ?_)
    subst e
    rw [hg7] at hk
    simp at hk
  · refine (((Upd.of_below hbW (Nat.le_refl _)).comp hu6 (by omega) (fun k hlt e => ?_)).setCell (.inl (.inl rfl)) _).comp hs8 (by simp; omega) (fun k hlt e => .inr (.inr e))
    rcases e with e | e
    · exact .inl e
    · exact .inr (.inl e)
  · refine hgr6.kept (fun k cur hk hWk => (hs8.block k (by simpa using blk_lt hk) (fun e => by omega)).trans (Below.heap_setCell w6 ⟨rb, 2, none⟩ _ k (show k ≠ rb by omega)))

set_option maxRecDepth 100000 in
set_option maxHeartbeats 16000000 in
theorem drop1_go {W : World} {B rb mb n : Nat} {D : DataW Value} {R : RS} (h : RoAt W B rb mb n D R) (hT : Tabs W) (g : Nat) (s : ByteArray) (hs : s.size ≤ 9223372036854775807)
    (hx : DropBox W g rb s Ent.zero (.slice none 0 0)) (hn : n ≤ 1000000) (hB : B ≤ W.heap.size) (hg : rb < g ∧ mb < g) (hv0 : 0 ≤ R.ver) (hv1 : R.ver < 18446744073709551615) (hE : (localS s).2 = 0) :
    Calls Tryz.prog 66 (dropCaps g) W fun e w' =>
      if (R.entry (localS s).1).kept = false then e = .panicked [{ v := rfailsV 7, recovered := false }] ∧ Below W.heap.size W w'
      else e = .returned (.tuple #[]) ∧ DropDone W w' B rb mb n g { R.set (Ent.new (R.entry (localS s).1).contact) with ver := R.ver + 1 } (R.entry (localS s).1) := by
  have hcs := localS_le s
  have C1 := Lib.hid (fun W' (hW : Below W.heap.size W W') => rlocal_ok s W' (hT.later hW) hs hE)
  obtain ⟨x, hxx⟩ : ∃ x, (localS s).1 = x := ⟨_, rfl⟩
  rw [hxx] at C1 hcs ⊢
  have hsm := entry_small h x (by unfold maxLen; omega)
  have C3 := Lib.hid (fun W' (hW : Below W.heap.size W W') => rentry_any (h.below hW) x (by unfold maxLen; omega))
  obtain ⟨it, hit⟩ : ∃ it, R.entry x = it := ⟨_, rfl⟩
  rw [hit] at hsm C3 ⊢
  have c0 : W.cell? ⟨g, 0, none⟩ = some (.pointer (some ⟨rb, 0, none⟩)) := blk_cell hx.b0 0
  have c1 : W.cell? ⟨g + 1, 0, none⟩ = some (.string s) := blk_cell hx.b1 0
  have zg := blk_lt hx.b2
  have z0 : g < W.heap.size := by omega
  have z1 : g + 1 < W.heap.size := by omega
  obtain ⟨P7, hP7⟩ : ∃ P7 : Ending → World → Prop, P7 = fun e w' => if it.kept = false then e = .panicked [{ v := rfailsV 7, recovered := false }] ∧ Below W.heap.size W w' else e = .returned (.tuple #[]) ∧ DropDone W w' B rb mb n g { R.set (Ent.new it.contact) with ver := R.ver + 1 } it := ⟨_, rfl⟩
  show Calls Tryz.prog 66 (dropCaps g) W (fun e w' => (fun e w' => if it.kept = false then e = .panicked [{ v := rfailsV 7, recovered := false }] ∧ Below W.heap.size W w' else e = .returned (.tuple #[]) ∧ DropDone W w' B rb mb n g { R.set (Ent.new it.contact) with ver := R.ver + 1 } it) e w')
  rw [← hP7]
  have H := Lib.hid (And.intro h (And.intro hT (And.intro hx (And.intro hsm (And.intro hit hP7)))))
  clear h hT hx hE hsm hit hcs hxx hP7
  go_enter Tryz.func66, Tryz.ntmps66
  go_wp2_with fail
  refine Reg.wp_region_puts (A := [[], [], [1], [0, 2, 1], [], [4, 3, 0, 2, 1]]) (effs := [2, 3, 4, 5]) (N := 24)
    (val := fun i r => match i with | 0 => .pointer (some ⟨rb, 0, none⟩) | 1 => .string s | _ => undef)
    (Stage := fun rs wx => DropStage W wx x it rs)
    (fun rs => [(some 4, .pointer (some ⟨rb, 0, none⟩)), (some 5, .string s), (some 6, (rs 2).getD undef), (some 7, (rs 3).getD undef), (some 3, (rs 4).getD undef), (none, (rs 5).getD undef)])
    (by kernel_rfl) (by kernel_rfl) rfl (fun _ => rfl) ?h0 ?hob ?hend
  case hob =>
    intro i hi
    match i, hi with
    | 0, _ => exact Reg.Ob.pure rfl rfl rfl (fun rs => .pointer (some ⟨rb, 0, none⟩)) (fun _ => rfl) (fun rs wx a hs hd hl hk => by
        have e0 : (a.tmps[0]?).getD undef = .pointer (some ⟨g, 0, none⟩) := hk 0 (by decide)
        have c : wx.cell? ⟨g, 0, none⟩ = some (.pointer (some ⟨rb, 0, none⟩)) := (hs.below.cell (p := ⟨g, 0, none⟩) z0).trans c0
        go_simp)
    | 1, _ => exact Reg.Ob.pure rfl rfl rfl (fun rs => .string s) (fun _ => rfl) (fun rs wx a hs hd hl hk => by
        have e1 : (a.tmps[1]?).getD undef = .pointer (some ⟨g + 1, 0, none⟩) := hk 1 (by decide)
        have c : wx.cell? ⟨g + 1, 0, none⟩ = some (.string s) := (hs.below.cell (p := ⟨g + 1, 0, none⟩) z1).trans c1
        go_simp)
    | 2, _ =>
      refine Reg.Ob.eff rfl rfl rfl ?_
      intro rs wx a hs hd hn hl hk K hK
      have e5 : (a.tmps[5]?).getD undef = .string s := hk 5 (by decide)
      have C := Lib.hid (C1.out wx hs.below)
      have HS := Lib.hid hs
      have HN := Lib.hid (And.intro (hl 3 (by decide)) (hl 5 (by decide)))
      have HKK := Lib.hid hK
      clear hs hn hd hl hk hK
      go_simp
      refine C.out.mono ?_
      rintro e w5 ⟨rfl, hb⟩
      refine HKK.out _ _ ⟨HS.out.below.trans (hb.mono HS.out.below.size), fun u hu => (by have : some (Value.string x) = some u := hu; cases this; rfl), fun u hu => ?_, fun u hu => ?_⟩
      · obtain ⟨b, e1, e2, e3⟩ := HS.out.al u (by simpa [Reg.upd] using hu)
        exact ⟨b, e1, e2, fun h5 => blk_below (e3 HN.out.2) hb (blk_lt (e3 HN.out.2))⟩
      · have : rs 3 = some u := by simpa [Reg.upd] using hu
        rw [HN.out.1] at this
        cases this
    | 3, _ =>
      refine Reg.Ob.eff rfl rfl rfl ?_
      intro rs wx a hs hd hn hl hk K hK
      have e4 : (a.tmps[4]?).getD undef = .pointer (some ⟨rb, 0, none⟩) := hk 4 (by decide)
      have e6 : (a.tmps[6]?).getD undef = ((rs 2).getD undef) := hk 6 (by decide)
      obtain ⟨u, hu⟩ := hd 2 (by decide) (by decide)
      obtain rfl := hs.loc u hu
      rw [hu] at e6
      simp only [Option.getD_some] at e6
      have C := Lib.hid (C3.out wx hs.below)
      have HS := Lib.hid hs
      have HN := Lib.hid (hl 5 (by decide))
      have HKK := Lib.hid hK
      clear hs hn hd hl hk hK hu
      go_simp
      refine C.out.mono ?_
      rintro e w5 ⟨⟨A, c, rfl, hg⟩, hb⟩
      refine HKK.out _ _ ⟨HS.out.below.trans (hb.mono HS.out.below.size), fun u hu => HS.out.loc u (by simpa [Reg.upd] using hu), fun u hu => ?_, fun u hu => ?_⟩
      · obtain ⟨b, e1, e2, e3⟩ := HS.out.al u (by simpa [Reg.upd] using hu)
        exact ⟨b, e1, e2, fun h5 => blk_below (e3 HN.out) hb (blk_lt (e3 HN.out))⟩
      · have : some (it.val (.slice A it.groups.length c)) = some u := hu
        cases this
        refine ⟨A, c, rfl, hg.lower HS.out.below.size, fun z hz => ?_⟩
        have : rs 5 = some z := by simpa [Reg.upd] using hz
        rw [HN.out] at this
        cases this
    | 4, _ =>
      refine Reg.Ob.eff rfl rfl rfl ?_
      intro rs wx a hs hd hn hl hk K hK
      have HS := Lib.hid hs
      have HN := Lib.hid (hl 5 (by decide))
      have HKK := Lib.hid hK
      clear hs hn hd hl hk hK
      go_simp
      refine HKK.out _ _ ⟨HS.out.below.alloc HS.out.below.size _, fun u hu => HS.out.loc u (by simpa [Reg.upd] using hu), fun u hu => ?_, fun u hu => ?_⟩
      · have : some (Value.pointer (some ⟨wx.heap.size, 0, none⟩)) = some u := hu
        cases this
        exact ⟨_, rfl, HS.out.below.size, fun _ => blk_new _ _⟩
      · obtain ⟨A, c, e1, e2, e3⟩ := HS.out.res u (by simpa [Reg.upd] using hu)
        refine ⟨A, c, e1, e2.below ((Below.refl _ _).alloc (Nat.le_refl _) _), fun z hz => ?_⟩
        have : rs 5 = some z := by simpa [Reg.upd] using hz
        rw [HN.out] at this
        cases this
    | 5, _ =>
      refine Reg.Ob.eff rfl rfl rfl ?_
      intro rs wx a hs hd hn hl hk K hK
      have e3 : (a.tmps[3]?).getD undef = ((rs 4).getD undef) := hk 3 (by decide)
      have e7 : (a.tmps[7]?).getD undef = ((rs 3).getD undef) := hk 7 (by decide)
      obtain ⟨u, hu⟩ := hd 4 (by decide) (by decide)
      obtain ⟨v, hv⟩ := hd 3 (by decide) (by decide)
      obtain ⟨b, rfl, hbW, hbx⟩ := hs.al u hu
      obtain ⟨A, c, rfl, hg, _⟩ := hs.res v hv
      have hbx := hbx hn
      rw [hu] at e3
      rw [hv] at e7
      simp only [Option.getD_some] at e3 e7
      obtain ⟨contact, kept, name, groups, ⟨o, hn2, i, m⟩⟩ := it
      obtain ⟨x0, x1, x2, x3, x4, x5, x6, x7, f0, f1, f2, f3, f4, f5, f6, f7⟩ := cells8 hbx
      have HS := Lib.hid (And.intro hs.below (And.intro hs.loc (And.intro hbW (And.intro hbx (And.intro hg (And.intro hu hv))))))
      have HKK := Lib.hid hK
      clear hs hn hd hl hk hK hu hv hbx hg hbW
      go_simp
      obtain ⟨hB, hloc, hbW, hbx, hg, hu, hv⟩ := HS.out
      have hs8 := upd_set8 (b := b) (ks := fun k => k = b) (Upd.refl wx.heap.size _ wx) (.inl rfl) (.string contact) (.bool kept) (.string name) (.slice A groups.length c) (.int .i64 o) (.int .u64 hn2) (.int .i64 i) (.int .u64 m)
      refine HKK.out undef _ ⟨hB.trans (hs8.below (B := W.heap.size) (fun k e => by omega) hB.size), fun u hu => hloc u (by simpa [Reg.upd] using hu), fun u' hu' => ?_, fun u' hu' => ?_⟩
      · have : rs 4 = some u' := by simpa [Reg.upd] using hu'
        rw [hu] at this
        cases this
        exact ⟨b, rfl, hbW, fun h => by simp [Reg.upd] at h⟩
      · have : rs 3 = some u' := by simpa [Reg.upd] using hu'
        rw [hv] at this
        cases this
        refine ⟨A, c, rfl, hg.kept fun k cur hk _ => hs8.block k (blk_lt hk) (fun e => ?_), fun z _ => ⟨b, by simpa [Reg.upd] using hu, blk_set8 hbx _ _ _ _ _ _ _ _⟩⟩
        subst e
        rw [hbx] at hk
        simp at hk
    | n + 6, h => exact absurd h (by simp <;> omega)
  case h0 =>
    exact ⟨(Below.refl _ _).drew, fun u hu => (by cases hu), fun u hu => (by cases hu), fun u hu => (by cases hu)⟩
  case hend =>
    intro rs wx hs hd
    obtain ⟨u2, hu2⟩ := hd 2 (by decide) (by decide)
    obtain ⟨u3, hu3⟩ := hd 3 (by decide) (by decide)
    obtain ⟨u4, hu4⟩ := hd 4 (by decide) (by decide)
    obtain ⟨u5, hu5⟩ := hd 5 (by decide) (by decide)
    obtain ⟨b', rfl, hbW, _⟩ := hs.al u4 hu4
    obtain ⟨A, c, rfl, hgr, hbb⟩ := hs.res u3 hu3
    obtain ⟨b, hb4, hbox⟩ := hbb u5 hu5
    obtain rfl : b' = b := by rw [hu4] at hb4; simpa using hb4
    obtain rfl := hs.loc u2 hu2
    obtain ⟨h, hT, hx, hsm, hit, hP7⟩ := H.out
    have hx2 := hx.below hs.below
    have hro2 := h.below hs.below
    have d0 : wx.cell? ⟨g, 0, none⟩ = some (.pointer (some ⟨rb, 0, none⟩)) := blk_cell hx2.b0 0
    obtain ⟨contact, kept, name, groups, ⟨o, hn2, i, m⟩⟩ := it
    simp only at hsm hgr hbox hP7
    obtain ⟨y0, y1, y2, y3, y4, y5, y6, y7, _⟩ := cells8 hbox
    have hlt := h.lt
    have zb := blk_lt hbox
    have hzz := hs.below.size
    have C5 := rset_any hro2 (Ent.new contact) (.slice none 0 0) (Grp.nil wx 0).strs (by simp [Ent.new]) hsm.2 hn (Nat.le_trans hB hs.below.size)
    have hset := RS.set_ver R (Ent.new contact)
    have HH := Lib.hid (And.intro hs.below (And.intro hx2 (And.intro hro2 (And.intro hbox (And.intro hgr (And.intro hset hP7))))))
    simp only [List.foldl_cons, List.foldl_nil, Act.put, List.setIfInBounds_toArray, List.set_cons_zero, List.set_cons_succ]
    rw [hu2, hu3, hu4]
    simp only [Option.getD_some, Ent.val, Ent.new] at C5 ⊢
    have HC5 := Lib.hid C5
    clear hs hd hb4 hbox hbb hu2 hu3 hu4 hu5 h hT hx hsm hit hP7 hx2 hro2 hgr hset C5 c0 c1 C1 C3 H
    cases kept with
    | false =>
      go_wp2_with fail
      refine (rmust_no 7 (by decide) _).mono ?_
      rintro e w3 ⟨rfl, rfl⟩
      go_wp2_with fail
      refine ⟨rfl, ?_⟩
      rw [HH.out.2.2.2.2.2.2]
      exact ⟨rfl, HH.out.1⟩
    | true =>
      go_wp2_with fail
      refine (rmust_yes 7 _).mono ?_
      rintro e w3 ⟨rfl, rfl⟩
      go_wp2_with fail
      refine HC5.out.mono ?_
      rintro e w6 ⟨rfl, ⟨m6, D6, hn6, hro6⟩, hu6⟩
      obtain ⟨hbW2, hx5, hro2, hbox, hgr, hset, hP7⟩ := HH.out
      have zg2 := blk_lt hx5.b2
      have hbx6 := blk_upd hbox hu6 (blk_lt hbox) (by rintro (e | e) <;> omega)
      have hx6 := hx5.upd hu6 (Nat.le_refl _) (fun j hj e => by rcases e with e | e <;> omega)
      have hgr6 : Grp w6 W.heap.size (.slice A groups.length c) groups := hgr.kept (fun k cur hk hWk => hu6.block k (blk_lt hk) (by rintro (e | e) <;> omega))
      have d0 : w6.cell? ⟨g, 0, none⟩ = some (.pointer (some ⟨rb, 0, none⟩)) := blk_cell hx6.b0 0
      have r2 : w6.cell? ⟨rb, 2, none⟩ = some (.int .u64 R.ver) := by rw [← hset.1]; exact blk_cell hro6.cells 2
      have rz2 : w6.frozen? ⟨rb, 2, none⟩ = false := blk_frozen hro6.cells 2
      obtain ⟨y0, y1, y2, y3, y4, y5, y6, y7, _⟩ := cells8 hbx6
      obtain ⟨x0, x1, x2, x3, x4, x5, x6, x7, f0, f1, f2, f3, f4, f5, f6, f7⟩ := cells8 hx6.b2
      have n1 : ¬ rb = b' := by omega
      have n2 : ¬ b' = rb := by omega
      have n3 : ¬ rb = g + 2 := by omega
      have n4 : ¬ g + 2 = rb := by omega
      have n5 : ¬ b' = g + 2 := by have := blk_lt hx5.b2; omega
      have n6 : ¬ g + 2 = b' := by omega
      have wv : IntKind.u64.wrap (R.ver + 1) = R.ver + 1 := IntWalk.u64_in _ (by omega)
      have H6 := Lib.hid (And.intro hn6 (And.intro hro6 (And.intro hu6 (And.intro hbx6 (And.intro hx6 hgr6)))))
      clear hbW2 hx5 hro2 hbox hgr hset hP7 hn6 hro6 hu6 hbx6 hx6 hgr6 HC5
      go_wp2_with fail
      go_end0
      obtain ⟨hbW2, hx5, hro2, hbox, hgr, hset, hP7⟩ := HH.out
      obtain ⟨hn6, hro6, hu6, hbx6, hx6, hgr6⟩ := H6.out
      rw [hP7]
      refine (show _ = _ ∧ _ from ⟨rfl, ?_⟩)
      exact drop_fin hbW2 hn6 hro6 hu6 hx6.b2 hgr6 hg (blk_lt hx5.b2) zg

theorem drop1_any {W : World} {B rb mb n : Nat} {D : DataW Value} {R : RS} (h : RoAt W B rb mb n D R) (hT : Tabs W) (g : Nat) (s : ByteArray) (hs : s.size ≤ 9223372036854775807)
    (hx : DropBox W g rb s Ent.zero (.slice none 0 0)) (hn : n ≤ 1000000) (hB : B ≤ W.heap.size) (hg : rb < g ∧ mb < g) (hv0 : 0 ≤ R.ver) (hv1 : R.ver < 18446744073709551615) :
    Calls Tryz.prog 66 (dropCaps g) W fun e w' => DropPost W B rb mb n g (R.dropAll s).1 (R.dropAll s).2.1 (R.dropAll s).2.2 e w' := by
  unfold RS.dropAll
  by_cases hE : (localS s).2 = 0
  · rw [if_neg (by simpa using hE)]
    refine (drop1_go h hT g s hs hx hn hB hg hv0 hv1 hE).mono fun e w' hp => ?_
    by_cases hk : (R.entry (localS s).1).kept = false
    · rw [if_pos hk] at hp ⊢
      exact .inl ⟨by simp, hp.1, hp.2⟩
    · rw [if_neg hk] at hp ⊢
      exact .inr ⟨rfl, hp.1, hp.2⟩
  · rw [if_pos hE]
    exact (drop1_name hT hs hx hE).mono fun e w' ⟨a, b⟩ => .inl ⟨hE, a, b⟩

end Go.Proofs.YthbjcihdlhkboaaGreatDoor
