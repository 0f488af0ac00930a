/- What a roster does at a contact's mail: the closure of Hear. -/
import Derived.Test.YthbjcihdlhkboaaGreatDoorQ14
namespace Go.Proofs.YthbjcihdlhkboaaGreatDoor
set_option linter.unusedSimpArgs false
set_option linter.unusedVariables false
open Go.RowKit Go.Maps Go.Shelf Go.Lib

theorem cells3 {w : World} {b : Nat} {x0 x1 x2 : Value} {T : TypeId} (h : w.heap[b]? = some (.cells #[x0, x1, x2] T)) : w.cell? ⟨b, 0, none⟩ = some x0 ∧ w.cell? ⟨b, 1, none⟩ = some x1 ∧ w.cell? ⟨b, 2, none⟩ = some x2 ∧ w.frozen? ⟨b, 0, none⟩ = false ∧ w.frozen? ⟨b, 1, none⟩ = false ∧ w.frozen? ⟨b, 2, none⟩ = false :=
  ⟨blk_cell h 0, blk_cell h 1, blk_cell h 2, blk_frozen h 0, blk_frozen h 1, blk_frozen h 2⟩

def halfEq (a b : Half) : Bool := a.o == b.o && (a.n == b.n && (a.i == b.i && a.m == b.m))

/-- A mail: the new roster, what is told, is it denied, is an item changed; or the error. -/
def RS.hear (R : RS) (s : ByteArray) (k nn : Int) : Except Int (RS × Int × Bool × Bool) :=
  if (localS s).2 = 0 then
    match hearS (R.entry (localS s).1).half k nn with
    | none => .error 1
    | some (h, t) =>
      if (R.get (localS s).1).isSome = false ∧ k = 1 ∧ R.asks ≤ (R.list.length : Int) - (R.kept : Int) then .ok (R, 0, true, false)
      else .ok (R.set { R.entry (localS s).1 with half := h }, t, false, (R.entry (localS s).1).kept && !(halfEq h (R.entry (localS s).1).half))
  else .error (localS s).2

/-- The variables that the closure of Hear has caught. -/
structure HearBox (W : World) (g rb : Nat) (s : ByteArray) (k nn t : Int) (dn ch : Bool) : Prop where
  b0 : W.heap[g]? = some (.cells #[.pointer (some ⟨rb, 0, none⟩)] 42)
  b1 : W.heap[g + 1]? = some (.cells #[.string s] 9)
  b2 : W.heap[g + 2]? = some (.cells #[.int .i64 k] 3)
  b3 : W.heap[g + 3]? = some (.cells #[.int .u64 nn] 45)
  b4 : W.heap[g + 4]? = some (.cells #[.int .i64 t, .bool dn, .bool ch] 63)
abbrev hearCaps (g : Nat) : Array Value := #[.pointer (some ⟨g, 0, none⟩), .pointer (some ⟨g + 1, 0, none⟩), .pointer (some ⟨g + 2, 0, none⟩), .pointer (some ⟨g + 3, 0, none⟩), .pointer (some ⟨g + 4, 0, none⟩)]
theorem HearBox.below {W W' : World} {g rb : Nat} {s : ByteArray} {k nn t : Int} {dn ch : Bool} (h : HearBox W g rb s k nn t dn ch) (hb : Below W.heap.size W W') : HearBox W' g rb s k nn t dn ch :=
  ⟨blk_below h.b0 hb (blk_lt h.b0), blk_below h.b1 hb (blk_lt h.b1), blk_below h.b2 hb (blk_lt h.b2), blk_below h.b3 hb (blk_lt h.b3), blk_below h.b4 hb (blk_lt h.b4)⟩
theorem HearBox.upd {W W' : World} {g rb : Nat} {s : ByteArray} {k nn t : Int} {dn ch : Bool} (h : HearBox W g rb s k nn t dn ch) {C : Nat} {ks : Nat → Prop} (hu : Upd C ks W W') (hC : W.heap.size ≤ C) (hk : ∀ j, j < 5 → ¬ ks (g + j)) : HearBox W' g rb s k nn t dn ch :=
  ⟨blk_upd h.b0 hu (by have := blk_lt h.b0; omega) (hk 0 (by omega)), blk_upd h.b1 hu (by have := blk_lt h.b1; omega) (hk 1 (by omega)), blk_upd h.b2 hu (by have := blk_lt h.b2; omega) (hk 2 (by omega)), blk_upd h.b3 hu (by have := blk_lt h.b3; omega) (hk 3 (by omega)), blk_upd h.b4 hu (by have := blk_lt h.b4; omega) (hk 4 (by omega))⟩

/-- What the closure leaves. -/
structure HearDone (W w' : World) (B rb mb n g : Nat) (R : RS) (t : Int) (dn ch : Bool) : Prop where
  ro : ∃ n' D', n' ≤ n + 1 ∧ RoAt w' B rb mb n' D' R
  upd : Upd W.heap.size (fun k => k = rb ∨ k = mb ∨ k = g + 4) W w'
  b4 : w'.heap[g + 4]? = some (.cells #[.int .i64 t, .bool dn, .bool ch] 63)
theorem hear_upd {W w5 wx w6 : World} {rb mb gg g : Nat} (hb : Upd W.heap.size (fun k => k = rb ∨ k = mb ∨ k = g + 4) W w5) (hs : Upd w5.heap.size (fun k => k = gg) w5 wx) (hu : Upd wx.heap.size (fun k => k = rb ∨ k = mb) wx w6) (hg : W.heap.size ≤ gg) :
    Upd W.heap.size (fun k => k = rb ∨ k = mb ∨ k = g + 4) W w6 where
  os := hu.os.trans (hs.os.trans hb.os)
  tape := hu.tape.trans (hs.tape.trans hb.tape)
  output := hu.output.trans (hs.output.trans hb.output)
  size := Nat.le_trans hb.size (Nat.le_trans hs.size hu.size)
  block := fun k hk hn => by
    have h1 := hb.size
    have h2 := hs.size
    rw [hu.block k (by omega) (by rintro (e | e); exact hn (.inl e); exact hn (.inr (.inl e)))]
    rw [hs.block k (by omega) (by rintro e; omega)]
    exact hb.block k hk hn

def HearPost (W : World) (B rb mb n g : Nat) : Except Int (RS × Int × Bool × Bool) → Ending → World → Prop
  | .error c, e, w' => e = .panicked [{ v := rfailsV c, recovered := false }] ∧ Below W.heap.size W w'
  | .ok r, e, w' => e = .returned (.tuple #[]) ∧ HearDone W w' B rb mb n g r.1 r.2.1 r.2.2.1 r.2.2.2

theorem entry_contact {w : World} {B rb mb n : Nat} {D : DataW Value} {R : RS} {kc : Int} (h : RoAtK w B rb mb n D R kc) (s : ByteArray) (hs : s.size ≤ maxLen) : (R.entry s).contact = s := by
  rcases h.lists s with ⟨_, a⟩ | ⟨g, e, _, a, b, _⟩
  · unfold RS.entry; rw [a]; rfl
  · unfold RS.entry; rw [a]; exact b.1

/-- The look-up of a contact, with a word on whether it is there, in every later world. -/
theorem RoAtK.look_later {w : World} {B rb mb n : Nat} {D : DataW Value} {R : RS} {kc : Int} (h : RoAtK w B rb mb n D R kc) (s : ByteArray) (hs : s.size ≤ maxLen) :
    ∃ (q : Ent) (A : Option Addr) (l c : Nat), ∀ w', Below w.heap.size w w' → (Instr.lookup 109 (.map (some mb)) (.string s) true).run Tryz.prog w' = .ok (.tuple #[q.val (.slice A l c), .bool (R.get s).isSome]) w' := by
  rcases h.lists s with ⟨a, b⟩ | ⟨g, e, a, b, c, d⟩
  · refine ⟨Ent.new ⟨#[]⟩, none, 0, 0, fun w' hb => ?_⟩
    have l1 := look_ok_eq (h.below hb).own (h.below hb).ok Tryz.underlying9 Tryz.underlying109 (entZero w') hs
    rw [a] at l1
    rw [b]
    exact l1
  · obtain ⟨A, cc, rfl⟩ := d.shape
    refine ⟨e, A, e.groups.length, cc, fun w' hb => ?_⟩
    have l1 := look_ok_eq (h.below hb).own (h.below hb).ok Tryz.underlying9 Tryz.underlying109 (entZero w') hs
    rw [a] at l1
    rw [b]
    exact l1

theorem RoAtK.len_eq {w : World} {B rb mb n : Nat} {D : DataW Value} {R : RS} {kc : Int} (h : RoAtK w B rb mb n D R kc) : (Builtin.len_ #[109] 3 #[.map (some mb)]).run Tryz.prog w = .ok (.int .i64 (R.list.length : Nat)) w := by
  rw [h.own.len Tryz.underlying109 3, h.size]
theorem RS.hear_name {R : RS} {s : ByteArray} {k nn : Int} (hE : (localS s).2 ≠ 0) : R.hear s k nn = .error (localS s).2 := by
  unfold RS.hear; rw [if_neg hE]
theorem RS.hear_none {R : RS} {s : ByteArray} {k nn : Int} {x : ByteArray} {it : Ent} (hE : (localS s).2 = 0) (hx : (localS s).1 = x) (hit : R.entry x = it) (hS : hearS it.half k nn = none) : R.hear s k nn = .error 1 := by
  unfold RS.hear; rw [if_pos hE, hx, hit, hS]
theorem RS.hear_full {R : RS} {s : ByteArray} {k nn : Int} {x : ByteArray} {it : Ent} {z : Half × Int} (hE : (localS s).2 = 0) (hx : (localS s).1 = x) (hit : R.entry x = it) (hS : hearS it.half k nn = some z)
    (hf : (R.get x).isSome = false ∧ k = 1 ∧ R.asks ≤ (R.list.length : Int) - (R.kept : Int)) : R.hear s k nn = .ok (R, 0, true, false) := by
  obtain ⟨h, t⟩ := z
  unfold RS.hear; rw [if_pos hE, hx, hit, hS]
  simp only
  rw [if_pos hf]
theorem RS.hear_do {R : RS} {s : ByteArray} {k nn : Int} {x : ByteArray} {it : Ent} {h : Half} {t : Int} (hE : (localS s).2 = 0) (hx : (localS s).1 = x) (hit : R.entry x = it) (hS : hearS it.half k nn = some (h, t))
    (hf : ¬ ((R.get x).isSome = false ∧ k = 1 ∧ R.asks ≤ (R.list.length : Int) - (R.kept : Int))) : R.hear s k nn = .ok (R.set { it with half := h }, t, false, it.kept && !(halfEq h it.half)) := by
  unfold RS.hear; rw [if_pos hE, hx, hit, hS]
  simp only
  rw [if_neg hf]

set_option maxHeartbeats 1000000 in
theorem run_half_neq (a b : Half) (w : World) : (binOp .neq 52 a.val b.val).run Tryz.prog w = .ok (.bool (!(halfEq a b))) w := by
  obtain ⟨a1, a2, a3, a4⟩ := a
  obtain ⟨b1, b2, b3, b4⟩ := b
  unfold halfEq
  simp only
  cases h1 : (a1 == b1) <;> cases h2 : (a2 == b2) <;> cases h3 : (a3 == b3) <;> cases h4 : (a4 == b4)
  all_goals go_simp

-- PRINTED
set_option maxRecDepth 100000 in
set_option maxHeartbeats 16000000 in
theorem hear1_name {W : World} {B rb mb n : Nat} {D : DataW Value} {R : RS} (h : RoAt W B rb mb n D R) (hT : Tabs W) (g : Nat) (s : ByteArray) (k nn : Int) (hs : s.size ≤ 9223372036854775807) (hx : HearBox W g rb s k nn 0 false false) (hE : (localS s).2 ≠ 0) :
    Calls Tryz.prog 70 (hearCaps g) W fun e w' => e = .panicked [{ v := rfailsV (localS s).2, recovered := false }] ∧ Below W.heap.size W w' := by
  have C1 := Lib.hid (fun W' (hW : Below W.heap.size W W') => rlocal_no s W' (hT.later hW) hs hE)
  generalize (localS s).2 = c at *
  have c0 : W.cell? ⟨g, 0, none⟩ = some (.pointer (some ⟨rb, 0, none⟩)) := blk_cell hx.b0 0
  have c1 : W.cell? ⟨g + 1, 0, none⟩ = some (.string s) := blk_cell hx.b1 0
  have l0 := blk_lt hx.b0
  have l1 := blk_lt hx.b1
  clear h hT hx hE
  go_enter Tryz.func70, Tryz.ntmps70
  go_wp2_with fail
  refine wp_region_held_drew (S := fun w' => w'.cell? ⟨g, 0, none⟩ = some (.pointer (some ⟨rb, 0, none⟩)) ∧ w'.cell? ⟨g + 1, 0, none⟩ = some (.string s)) (by kernel_rfl) ?_ (fun hHeld => ?_)
  · exact ⟨c0, c1⟩
  have HB : Below W.heap.size W W.drew := (Below.refl _ _).drew
  refine held_take (v := ?_) 0 rfl rfl (by kernel_rfl) (by kernel_rfl) (by kernel_rfl) (fun _ _ _ h => h) (by rfl) ?_ (by assumption) ?_
  rotate_left
  · intro w hSw; (try dsimp only at hSw); go_simp; (try with_reducible rfl)
  try simp only [Act.put, List.setIfInBounds_toArray, List.set_cons_zero, List.set_cons_succ]
  refine held_take (v := ?_) 1 rfl rfl (by kernel_rfl) (by kernel_rfl) (by kernel_rfl) (fun _ _ _ h => h) (by rfl) ?_ (by assumption) ?_
  rotate_left
  · intro w hSw; (try dsimp only at hSw); go_simp; (try with_reducible rfl)
  try simp only [Act.put, List.setIfInBounds_toArray, List.set_cons_zero, List.set_cons_succ]
  refine wpAnyH_ready (rs := [2, 4]) (by kernel_rfl) (by simp) (AllReadyH.cons rfl (fun K hK => ?_) (AllReadyH.cons rfl (fun K hK => ?_) (AllReadyH.nil)))
  · rw [if_pos (by rfl)]
    go_simp
    refine (C1.out _ HB).mono ?_
    rintro e w1 ⟨rfl, hbs1⟩
    exact ⟨rfl, rfl, Below.trans HB (hbs1.mono HB.size)⟩
  · rw [if_pos (by rfl)]
    go_simp
    have HBp4 := HB
    have BX4 : ((W.drew).alloc (.cells #[.string ⟨#[]⟩, .bool false, .string ⟨#[]⟩, .slice none 0 0, .int .i64 0, .int .u64 0, .int .i64 0, .int .u64 0] 54)).heap[W.heap.size]? = some (.cells #[.string ⟨#[]⟩, .bool false, .string ⟨#[]⟩, .slice none 0 0, .int .i64 0, .int .u64 0, .int .i64 0, .int .u64 0] 54) := blk_new (W.drew) (.cells #[.string ⟨#[]⟩, .bool false, .string ⟨#[]⟩, .slice none 0 0, .int .i64 0, .int .u64 0, .int .i64 0, .int .u64 0] 54)
    have HG4 : W.heap.size ≤ W.heap.size := HB.size
    have HBa1 := Below.alloc HB HB.size (.cells #[.string ⟨#[]⟩, .bool false, .string ⟨#[]⟩, .slice none 0 0, .int .i64 0, .int .u64 0, .int .i64 0, .int .u64 0] 54)
    have HB := HBa1
    refine hK.out _ _ ⟨(HB.cell (p := ⟨g, 0, none⟩) l0).trans c0, (HB.cell (p := ⟨g + 1, 0, none⟩) l1).trans c1⟩ (fun hHeld1 => ?_)
    clear hK K
    try simp only [Act.put, List.setIfInBounds_toArray, List.set_cons_zero, List.set_cons_succ]
    have hHeld := hHeld1
    refine held_step 2 rfl (by kernel_rfl) (by rfl) (fun K hK => ?_)
    go_simp
    refine (C1.out _ HB).mono ?_
    rintro e w2 ⟨rfl, hbs2⟩
    exact ⟨rfl, rfl, Below.trans HB (hbs2.mono HB.size)⟩

set_option maxRecDepth 100000 in
set_option maxHeartbeats 16000000 in
theorem hear1_go {W : World} {B rb mb n : Nat} {D : DataW Value} {R : RS} (h : RoAt W B rb mb n D R) (hT : Tabs W) (g : Nat) (s : ByteArray) (k nn : Int) (hs : s.size ≤ 9223372036854775807) (hx : HearBox W g rb s k nn 0 false false) (hE : (localS s).2 = 0)
    (hn : n ≤ 1000000) (hB : B ≤ W.heap.size) (hg : rb < g ∧ mb < g) (RES : Except Int (RS × Int × Bool × Bool)) (hres : R.hear s k nn = RES) :
    Calls Tryz.prog 70 (hearCaps g) W fun e w' => HearPost W B rb mb n g RES e w' := by
  have hcs := localS_le s
  have C1 := Lib.hid (fun W' (hW : Below W.heap.size W W') => rlocal_ok s W' (hT.later hW) hs hE)
  have C2 := Lib.hid (fun W' (hW : Below W.heap.size W W') => rentry_any (h.below hW) (localS s).1 (by unfold maxLen; omega))
  have hgl := entry_small h (localS s).1 (by unfold maxLen; omega)
  have hec := entry_contact h (localS s).1 (by unfold maxLen; omega)
  have hlk := h.look_later (localS s).1 (by unfold maxLen; omega)
  generalize hx1 : (localS s).1 = x at *
  generalize hit : R.entry x = it at *
  obtain ⟨contact, kept, name, groups, ⟨o, hn', i, m⟩⟩ := it
  simp only at C2 hec
  subst hec
  obtain ⟨⟨qcontact, qkept, qname, qgroups, ⟨qo, qn, qi, qm⟩⟩, QA, qgl, qc, hlk⟩ := hlk
  obtain ⟨known, hknown⟩ : ∃ b, (R.get contact).isSome = b := ⟨_, rfl⟩
  rw [hknown] at hlk
  simp only [Ent.val] at hlk
  have LK := Lib.hid hlk
  have c0 : W.cell? ⟨g, 0, none⟩ = some (.pointer (some ⟨rb, 0, none⟩)) := blk_cell hx.b0 0
  have c1 : W.cell? ⟨g + 1, 0, none⟩ = some (.string s) := blk_cell hx.b1 0
  have l0 := blk_lt hx.b0
  have l1 := blk_lt hx.b1
  have HX := Lib.hid hx
  have HH := Lib.hid h
  have HGL := Lib.hid (And.intro hgl.1 (And.intro hgl.2 (And.intro hn hB)))
  have HGB := Lib.hid hg
  have HHE := Lib.hid (fun W' => hear_any ⟨o, hn', i, m⟩ k nn W')
  have HRES := Lib.hid (And.intro hres (And.intro hE (And.intro hx1 (And.intro hit hknown))))
  clear h hT hx hE hx1 hit hcs hs hgl hn hB hg hres hlk hknown
  go_enter Tryz.func70, Tryz.ntmps70
  go_upto_region 1 with fail
  go_cut [5] (fun s5 wx => ∃ gg A c, s5 = .pointer (some ⟨gg, 0, none⟩) ∧ Below W.heap.size W wx ∧ W.heap.size ≤ gg ∧ wx.heap[gg]? = some (.cells #[.string contact, .bool kept, .string name, .slice A groups.length c, .int .i64 o, .int .u64 hn', .int .i64 i, .int .u64 m] 54) ∧ Grp wx W.heap.size (.slice A groups.length c) groups)
  case first =>
    go_wp2_with fail
    refine wp_region_held_drew (S := fun w' => w'.cell? ⟨g, 0, none⟩ = some (.pointer (some ⟨rb, 0, none⟩)) ∧ w'.cell? ⟨g + 1, 0, none⟩ = some (.string s)) (by kernel_rfl) ?_ (fun hHeld => ?_)
    · exact ⟨c0, c1⟩
    have HB : Below W.heap.size W W.drew := (Below.refl _ _).drew
    refine held_take (v := ?_) 0 rfl rfl (by kernel_rfl) (by kernel_rfl) (by kernel_rfl) (fun _ _ _ h => h) (by rfl) ?_ (by assumption) ?_
    rotate_left
    · intro w hSw; (try dsimp only at hSw); go_simp; (try with_reducible rfl)
    try simp only [Act.put, List.setIfInBounds_toArray, List.set_cons_zero, List.set_cons_succ]
    refine held_take (v := ?_) 1 rfl rfl (by kernel_rfl) (by kernel_rfl) (by kernel_rfl) (fun _ _ _ h => h) (by rfl) ?_ (by assumption) ?_
    rotate_left
    · intro w hSw; (try dsimp only at hSw); go_simp; (try with_reducible rfl)
    try simp only [Act.put, List.setIfInBounds_toArray, List.set_cons_zero, List.set_cons_succ]
    refine wpAnyH_ready (rs := [2, 4]) (by kernel_rfl) (by simp) (AllReadyH.cons rfl (fun K hK => ?_) (AllReadyH.cons rfl (fun K hK => ?_) (AllReadyH.nil)))
    · rw [if_pos (by rfl)]
      go_simp
      refine (C1.out _ HB).mono ?_
      rintro e w1 ⟨rfl, hbs1⟩
      have HB1 : Below W.heap.size W w1 := Below.trans HB (hbs1.mono HB.size)
      try go_wp2_with fail
      have HB := HB1
      refine hK.out _ _ ⟨(HB.cell (p := ⟨g, 0, none⟩) l0).trans c0, (HB.cell (p := ⟨g + 1, 0, none⟩) l1).trans c1⟩ (fun hHeld1 => ?_)
      clear hK K
      try simp only [Act.put, List.setIfInBounds_toArray, List.set_cons_zero, List.set_cons_succ]
      have hHeld := hHeld1
      refine wpAnyH_ready (rs := [3, 4]) (by kernel_rfl) (by simp) (AllReadyH.cons rfl (fun K hK => ?_) (AllReadyH.cons rfl (fun K hK => ?_) (AllReadyH.nil)))
      · rw [if_pos (by rfl)]
        go_simp
        refine (C2.out _ HB).mono ?_
        rintro e w2 ⟨⟨A, c, rfl, hgr⟩, hbs2⟩
        have HB2 : Below W.heap.size W w2 := Below.trans HB (hbs2.mono HB.size)
        have hgr : Grp w2 W.heap.size (.slice A groups.length c) groups := hgr.lower HB.size
        try go_wp2_with fail
        have HB := HB2
        refine hK.out _ _ ⟨(HB.cell (p := ⟨g, 0, none⟩) l0).trans c0, (HB.cell (p := ⟨g + 1, 0, none⟩) l1).trans c1⟩ (fun hHeld2 => ?_)
        clear hK K
        try simp only [Act.put, List.setIfInBounds_toArray, List.set_cons_zero, List.set_cons_succ]
        have hHeld := hHeld2
        refine held_step 4 rfl (by kernel_rfl) (by rfl) (fun K hK => ?_)
        go_simp
        have HBp4 := HB
        have BX4 : ((w2).alloc (.cells #[.string ⟨#[]⟩, .bool false, .string ⟨#[]⟩, .slice none 0 0, .int .i64 0, .int .u64 0, .int .i64 0, .int .u64 0] 54)).heap[w2.heap.size]? = some (.cells #[.string ⟨#[]⟩, .bool false, .string ⟨#[]⟩, .slice none 0 0, .int .i64 0, .int .u64 0, .int .i64 0, .int .u64 0] 54) := blk_new (w2) (.cells #[.string ⟨#[]⟩, .bool false, .string ⟨#[]⟩, .slice none 0 0, .int .i64 0, .int .u64 0, .int .i64 0, .int .u64 0] 54)
        have HG4 : W.heap.size ≤ w2.heap.size := HB.size
        have HBa3 := Below.alloc HB HB.size (.cells #[.string ⟨#[]⟩, .bool false, .string ⟨#[]⟩, .slice none 0 0, .int .i64 0, .int .u64 0, .int .i64 0, .int .u64 0] 54)
        have HB := HBa3
        refine hK.out _ _ ⟨(HB.cell (p := ⟨g, 0, none⟩) l0).trans c0, (HB.cell (p := ⟨g + 1, 0, none⟩) l1).trans c1⟩ (fun hHeld3 => ?_)
        clear hK K
        try simp only [Act.put, List.setIfInBounds_toArray, List.set_cons_zero, List.set_cons_succ]
        have hHeld := hHeld3
        refine held_step 5 rfl (by kernel_rfl) (by rfl) (fun K hK => ?_)
        go_simp
        have BX4 : ((w2).alloc (.cells #[.string contact, .bool kept, .string name, .slice A groups.length c, .int .i64 o, .int .u64 hn', .int .i64 i, .int .u64 m] 54)).heap[w2.heap.size]? = some (.cells #[.string contact, .bool kept, .string name, .slice A groups.length c, .int .i64 o, .int .u64 hn', .int .i64 i, .int .u64 m] 54) := blk_new (w2) (.cells #[.string contact, .bool kept, .string name, .slice A groups.length c, .int .i64 o, .int .u64 hn', .int .i64 i, .int .u64 m] 54)
        have HBe : Below W.heap.size W ((w2).alloc (.cells #[.string contact, .bool kept, .string name, .slice A groups.length c, .int .i64 o, .int .u64 hn', .int .i64 i, .int .u64 m] 54)) := Below.alloc HBp4 HBp4.size _
        have hgr : Grp ((w2).alloc (.cells #[.string contact, .bool kept, .string name, .slice A groups.length c, .int .i64 o, .int .u64 hn', .int .i64 i, .int .u64 m] 54)) W.heap.size (.slice A groups.length c) groups := hgr.kept fun k cur hk _ => Below.heap_alloc _ _ k (blk_lt hk)
        have HB := HBe
        refine hK.out _ _ ⟨(HB.cell (p := ⟨g, 0, none⟩) l0).trans c0, (HB.cell (p := ⟨g + 1, 0, none⟩) l1).trans c1⟩ (fun hHeld4 => ?_)
        clear hK K
        try simp only [Act.put, List.setIfInBounds_toArray, List.set_cons_zero, List.set_cons_succ]
        have hHeld := hHeld4
        refine wpAnyH_done (by kernel_rfl) ?_ _
        clear hHeld
        go_wp2_with fail
        go_meet
        exact ⟨_, A, c, rfl, HB, HG4, BX4, hgr⟩
      · rw [if_pos (by rfl)]
        go_simp
        have HBp4 := HB
        have BX4 : ((w1).alloc (.cells #[.string ⟨#[]⟩, .bool false, .string ⟨#[]⟩, .slice none 0 0, .int .i64 0, .int .u64 0, .int .i64 0, .int .u64 0] 54)).heap[w1.heap.size]? = some (.cells #[.string ⟨#[]⟩, .bool false, .string ⟨#[]⟩, .slice none 0 0, .int .i64 0, .int .u64 0, .int .i64 0, .int .u64 0] 54) := blk_new (w1) (.cells #[.string ⟨#[]⟩, .bool false, .string ⟨#[]⟩, .slice none 0 0, .int .i64 0, .int .u64 0, .int .i64 0, .int .u64 0] 54)
        have HG4 : W.heap.size ≤ w1.heap.size := HB.size
        have HBa2 := Below.alloc HB HB.size (.cells #[.string ⟨#[]⟩, .bool false, .string ⟨#[]⟩, .slice none 0 0, .int .i64 0, .int .u64 0, .int .i64 0, .int .u64 0] 54)
        have HB := HBa2
        refine hK.out _ _ ⟨(HB.cell (p := ⟨g, 0, none⟩) l0).trans c0, (HB.cell (p := ⟨g + 1, 0, none⟩) l1).trans c1⟩ (fun hHeld2 => ?_)
        clear hK K
        try simp only [Act.put, List.setIfInBounds_toArray, List.set_cons_zero, List.set_cons_succ]
        have hHeld := hHeld2
        refine held_step 3 rfl (by kernel_rfl) (by rfl) (fun K hK => ?_)
        go_simp
        refine (C2.out _ HB).mono ?_
        rintro e w3 ⟨⟨A, c, rfl, hgr⟩, hbs3⟩
        have HB3 : Below W.heap.size W w3 := Below.trans HB (hbs3.mono HB.size)
        have BX4 := blk_below BX4 hbs3 (blk_lt BX4)
        have hgr : Grp w3 W.heap.size (.slice A groups.length c) groups := hgr.lower HB.size
        try go_wp2_with fail
        have HB := HB3
        refine hK.out _ _ ⟨(HB.cell (p := ⟨g, 0, none⟩) l0).trans c0, (HB.cell (p := ⟨g + 1, 0, none⟩) l1).trans c1⟩ (fun hHeld3 => ?_)
        clear hK K
        try simp only [Act.put, List.setIfInBounds_toArray, List.set_cons_zero, List.set_cons_succ]
        have hHeld := hHeld3
        refine held_step 5 rfl (by kernel_rfl) (by rfl) (fun K hK => ?_)
        obtain ⟨q0, q1, q2, q3, q4, q5, q6, q7, qz0, qz1, qz2, qz3, qz4, qz5, qz6, qz7⟩ := cells8 BX4
        go_simp
        have BXe := blk_set8 BX4 (.string contact) (.bool kept) (.string name) (.slice A groups.length c) (.int .i64 o) (.int .u64 hn') (.int .i64 i) (.int .u64 m)
        have HBe := below_set8 HB (b := w1.heap.size) HG4 (.string contact) (.bool kept) (.string name) (.slice A groups.length c) (.int .i64 o) (.int .u64 hn') (.int .i64 i) (.int .u64 m)
        have BUe := upd_set8 (w0 := w3) (B := (w3).heap.size) (ks := fun k => k = w1.heap.size) (b := w1.heap.size) (w := w3) (Upd.refl _ _ _) (.inl rfl) (.string contact) (.bool kept) (.string name) (.slice A groups.length c) (.int .i64 o) (.int .u64 hn') (.int .i64 i) (.int .u64 m)
        have hgr : Grp ((((((((w3.setCell ⟨w1.heap.size, 0, none⟩ (.string contact)).setCell ⟨w1.heap.size, 1, none⟩ (.bool kept)).setCell ⟨w1.heap.size, 2, none⟩ (.string name)).setCell ⟨w1.heap.size, 3, none⟩ (.slice A groups.length c)).setCell ⟨w1.heap.size, 4, none⟩ (.int .i64 o)).setCell ⟨w1.heap.size, 5, none⟩ (.int .u64 hn')).setCell ⟨w1.heap.size, 6, none⟩ (.int .i64 i)).setCell ⟨w1.heap.size, 7, none⟩ (.int .u64 m)) W.heap.size (.slice A groups.length c) groups := hgr.kept fun k cur hk _ => BUe.block k (blk_lt hk) (by rintro rfl; rw [BX4] at hk; simp at hk)
        have HB := HBe
        have BX4 := BXe
        clear q0 qz0 q1 qz1 q2 qz2 q3 qz3 q4 qz4 q5 qz5 q6 qz6 q7 qz7
        refine hK.out _ _ ⟨(HB.cell (p := ⟨g, 0, none⟩) l0).trans c0, (HB.cell (p := ⟨g + 1, 0, none⟩) l1).trans c1⟩ (fun hHeld4 => ?_)
        clear hK K
        try simp only [Act.put, List.setIfInBounds_toArray, List.set_cons_zero, List.set_cons_succ]
        have hHeld := hHeld4
        refine wpAnyH_done (by kernel_rfl) ?_ _
        clear hHeld
        go_wp2_with fail
        go_meet
        exact ⟨_, A, c, rfl, HB, HG4, BX4, hgr⟩
    · rw [if_pos (by rfl)]
      go_simp
      have HBp4 := HB
      have BX4 : ((W.drew).alloc (.cells #[.string ⟨#[]⟩, .bool false, .string ⟨#[]⟩, .slice none 0 0, .int .i64 0, .int .u64 0, .int .i64 0, .int .u64 0] 54)).heap[W.heap.size]? = some (.cells #[.string ⟨#[]⟩, .bool false, .string ⟨#[]⟩, .slice none 0 0, .int .i64 0, .int .u64 0, .int .i64 0, .int .u64 0] 54) := blk_new (W.drew) (.cells #[.string ⟨#[]⟩, .bool false, .string ⟨#[]⟩, .slice none 0 0, .int .i64 0, .int .u64 0, .int .i64 0, .int .u64 0] 54)
      have HG4 : W.heap.size ≤ W.heap.size := HB.size
      have HBa1 := Below.alloc HB HB.size (.cells #[.string ⟨#[]⟩, .bool false, .string ⟨#[]⟩, .slice none 0 0, .int .i64 0, .int .u64 0, .int .i64 0, .int .u64 0] 54)
      have HB := HBa1
      refine hK.out _ _ ⟨(HB.cell (p := ⟨g, 0, none⟩) l0).trans c0, (HB.cell (p := ⟨g + 1, 0, none⟩) l1).trans c1⟩ (fun hHeld1 => ?_)
      clear hK K
      try simp only [Act.put, List.setIfInBounds_toArray, List.set_cons_zero, List.set_cons_succ]
      have hHeld := hHeld1
      refine held_step 2 rfl (by kernel_rfl) (by rfl) (fun K hK => ?_)
      go_simp
      refine (C1.out _ HB).mono ?_
      rintro e w2 ⟨rfl, hbs2⟩
      have HB2 : Below W.heap.size W w2 := Below.trans HB (hbs2.mono HB.size)
      have BX4 := blk_below BX4 hbs2 (blk_lt BX4)
      try go_wp2_with fail
      have HB := HB2
      refine hK.out _ _ ⟨(HB.cell (p := ⟨g, 0, none⟩) l0).trans c0, (HB.cell (p := ⟨g + 1, 0, none⟩) l1).trans c1⟩ (fun hHeld2 => ?_)
      clear hK K
      try simp only [Act.put, List.setIfInBounds_toArray, List.set_cons_zero, List.set_cons_succ]
      have hHeld := hHeld2
      refine held_step 3 rfl (by kernel_rfl) (by rfl) (fun K hK => ?_)
      go_simp
      refine (C2.out _ HB).mono ?_
      rintro e w3 ⟨⟨A, c, rfl, hgr⟩, hbs3⟩
      have HB3 : Below W.heap.size W w3 := Below.trans HB (hbs3.mono HB.size)
      have BX4 := blk_below BX4 hbs3 (blk_lt BX4)
      have hgr : Grp w3 W.heap.size (.slice A groups.length c) groups := hgr.lower HB.size
      try go_wp2_with fail
      have HB := HB3
      refine hK.out _ _ ⟨(HB.cell (p := ⟨g, 0, none⟩) l0).trans c0, (HB.cell (p := ⟨g + 1, 0, none⟩) l1).trans c1⟩ (fun hHeld3 => ?_)
      clear hK K
      try simp only [Act.put, List.setIfInBounds_toArray, List.set_cons_zero, List.set_cons_succ]
      have hHeld := hHeld3
      refine held_step 5 rfl (by kernel_rfl) (by rfl) (fun K hK => ?_)
      obtain ⟨q0, q1, q2, q3, q4, q5, q6, q7, qz0, qz1, qz2, qz3, qz4, qz5, qz6, qz7⟩ := cells8 BX4
      go_simp
      have BXe := blk_set8 BX4 (.string contact) (.bool kept) (.string name) (.slice A groups.length c) (.int .i64 o) (.int .u64 hn') (.int .i64 i) (.int .u64 m)
      have HBe := below_set8 HB (b := W.heap.size) HG4 (.string contact) (.bool kept) (.string name) (.slice A groups.length c) (.int .i64 o) (.int .u64 hn') (.int .i64 i) (.int .u64 m)
      have BUe := upd_set8 (w0 := w3) (B := (w3).heap.size) (ks := fun k => k = W.heap.size) (b := W.heap.size) (w := w3) (Upd.refl _ _ _) (.inl rfl) (.string contact) (.bool kept) (.string name) (.slice A groups.length c) (.int .i64 o) (.int .u64 hn') (.int .i64 i) (.int .u64 m)
      have hgr : Grp ((((((((w3.setCell ⟨W.heap.size, 0, none⟩ (.string contact)).setCell ⟨W.heap.size, 1, none⟩ (.bool kept)).setCell ⟨W.heap.size, 2, none⟩ (.string name)).setCell ⟨W.heap.size, 3, none⟩ (.slice A groups.length c)).setCell ⟨W.heap.size, 4, none⟩ (.int .i64 o)).setCell ⟨W.heap.size, 5, none⟩ (.int .u64 hn')).setCell ⟨W.heap.size, 6, none⟩ (.int .i64 i)).setCell ⟨W.heap.size, 7, none⟩ (.int .u64 m)) W.heap.size (.slice A groups.length c) groups := hgr.kept fun k cur hk _ => BUe.block k (blk_lt hk) (by rintro rfl; rw [BX4] at hk; simp at hk)
      have HB := HBe
      have BX4 := BXe
      clear q0 qz0 q1 qz1 q2 qz2 q3 qz3 q4 qz4 q5 qz5 q6 qz6 q7 qz7
      refine hK.out _ _ ⟨(HB.cell (p := ⟨g, 0, none⟩) l0).trans c0, (HB.cell (p := ⟨g + 1, 0, none⟩) l1).trans c1⟩ (fun hHeld4 => ?_)
      clear hK K
      try simp only [Act.put, List.setIfInBounds_toArray, List.set_cons_zero, List.set_cons_succ]
      have hHeld := hHeld4
      refine wpAnyH_done (by kernel_rfl) ?_ _
      clear hHeld
      go_wp2_with fail
      go_meet
      exact ⟨_, A, c, rfl, HB, HG4, BX4, hgr⟩
  case rest =>
    obtain ⟨gg, A, c, rfl, hbc, hgg, hbx, hgr⟩ := hcut
    go_step
    have BOX := Lib.hid (HX.out.below hbc)
    have RO := Lib.hid (HH.out.below hbc)
    have HIT := Lib.hid (And.intro hbc (And.intro hgg (And.intro hbx hgr)))
    have k2 : wc.cell? ⟨g + 2, 0, none⟩ = some (.int .i64 k) := blk_cell BOX.out.b2 0
    have k3 : wc.cell? ⟨g + 3, 0, none⟩ = some (.int .u64 nn) := blk_cell BOX.out.b3 0
    obtain ⟨x0, x1, x2, x3, x4, x5, x6, x7, _, _, _, _, _, _, _, _⟩ := cells8 hbx
    clear hbc hbx hgr C1 C2 c0 c1
    cases hS : hearS ⟨o, hn', i, m⟩ k nn with
    | none =>
      rw [hS] at HHE
      simp only [hearV] at HHE
      have hres : RES = .error 1 := HRES.out.1.symm.trans (RS.hear_none HRES.out.2.1 HRES.out.2.2.1 HRES.out.2.2.2.1 hS)
      have HRS := Lib.hid hres
      clear hres HRES hS
      go_wp2_with fail
      refine (HHE.out _).mono ?_
      rintro e w1 ⟨rfl, hb1⟩
      have HB1 := Lib.hid (HIT.out.1.trans (hb1.mono HIT.out.1.size))
      clear hb1
      go_wp2_with fail
      refine (rcheck_no 1 (by decide) _).mono ?_
      rintro e w' ⟨rfl, rfl⟩
      go_wp2_with fail
      rw [HRS.out]
      exact ⟨rfl, rfl, HB1.out.alloc HB1.out.size _⟩
    | some z =>
      obtain ⟨⟨ao, an, ai, am⟩, t2⟩ := z
      rw [hS] at HHE
      simp only [hearV] at HHE
      have HS := Lib.hid hS
      clear hS
      go_wp2_with fail
      refine (HHE.out _).mono ?_
      rintro e w1 ⟨rfl, hb1⟩
      have h1 := HIT.out.1.trans (hb1.mono HIT.out.1.size)
      obtain ⟨w2, hw2⟩ : ∃ w2, w1.alloc (.cells #[.int .i64 ao, .int .u64 an, .int .i64 ai, .int .u64 am] 52) = w2 := ⟨_, rfl⟩
      have BH : w2.heap[w1.heap.size]? = some (.cells #[.int .i64 ao, .int .u64 an, .int .i64 ai, .int .u64 am] 52) := by rw [← hw2]; exact blk_new _ _
      have hb2 : Below wc.heap.size wc w2 := by rw [← hw2]; exact hb1.alloc hb1.size _
      have hs2 : W.heap.size ≤ w1.heap.size := h1.size
      have hs3 : wc.heap.size ≤ w1.heap.size := hb1.size
      clear hb1 h1
      go_wp2_with fail
      refine (rcheck_ok _).mono ?_
      rintro e w' ⟨rfl, hw⟩
      obtain rfl := hw.symm
      generalize w1.heap.size = g2 at *
      clear hw2 hw
      have HW2 := Lib.hid (HIT.out.1.trans (hb2.mono HIT.out.1.size))
      have BOX2 := Lib.hid (BOX.out.below hb2)
      have RO2 := Lib.hid (RO.out.below hb2)
      have EB2 := Lib.hid (blk_below HIT.out.2.2.1 hb2 (blk_lt HIT.out.2.2.1))
      have GR2 := Lib.hid (HIT.out.2.2.2.kept fun k cur hk _ => hb2.block k (blk_lt hk))
      have HH2 := Lib.hid BH
      have HGG := Lib.hid (And.intro HIT.out.2.1 (And.intro hs2 (show gg ≠ g2 by have := blk_lt HIT.out.2.2.1; omega)))
      have LK2 := Lib.hid (fun w' (hb : Below w2.heap.size w2 w') => LK.out w' (HW2.out.trans (hb.mono HW2.out.size)))
      have LN2 := Lib.hid (fun w' (hb : Below w2.heap.size w2 w') => (RO2.out.below hb).len_eq)
      have k0 : w2.cell? ⟨g, 0, none⟩ = some (.pointer (some ⟨rb, 0, none⟩)) := blk_cell BOX2.out.b0 0
      have r4 : w2.cell? ⟨rb, 4, none⟩ = some (.map (some mb)) := blk_cell RO2.out.cells 4
      have e0 : w2.cell? ⟨gg, 0, none⟩ = some (.string contact) := blk_cell EB2.out 0
      have lt1 := blk_lt BOX2.out.b0
      have lt3 := RO2.out.lt.1
      have lt4 := blk_lt EB2.out
      clear hb2 BH hs2 hs3 BOX RO HIT LK k2 k3 x0 x1 x2 x3 x4 x5 x6 x7 HHE
      go_upto_region 4 with fail
      go_cut [10] (fun s10 wx => s10 = .bool known ∧ Below w2.heap.size w2 wx)
      case first =>
        go_wp2_with fail
        refine wp_region_held_drew (S := fun w' => w'.cell? ⟨g, 0, none⟩ = some (.pointer (some ⟨rb, 0, none⟩)) ∧ w'.cell? ⟨rb, 4, none⟩ = some (.map (some mb)) ∧ w'.cell? ⟨gg, 0, none⟩ = some (.string contact) ∧ (Instr.lookup 109 (.map (some mb)) (.string contact) true).run Tryz.prog w' = .ok (.tuple #[.agg #[.string qcontact, .bool qkept, .string qname, .slice QA qgl qc, .int .i64 qo, .int .u64 qn, .int .i64 qi, .int .u64 qm], .bool known]) w') (by kernel_rfl) ?_ (fun hHeld => ?_)
        · exact ⟨k0, r4, e0, LK2.out _ (Below.refl _ _).drew⟩
        have HB : Below w2.heap.size w2 w2.drew := (Below.refl _ _).drew
        refine held_take (v := ?_) 0 rfl rfl (by kernel_rfl) (by kernel_rfl) (by kernel_rfl) (fun _ _ _ h => h) (by rfl) ?_ (by assumption) ?_
        rotate_left
        · intro w hSw; (try dsimp only at hSw); go_simp; (try with_reducible rfl)
        try simp only [Act.put, List.setIfInBounds_toArray, List.set_cons_zero, List.set_cons_succ]
        refine held_take (v := ?_) 1 rfl rfl (by kernel_rfl) (by kernel_rfl) (by kernel_rfl) (fun _ _ _ h => h) (by rfl) ?_ (by assumption) ?_
        rotate_left
        · intro w hSw; (try dsimp only at hSw); go_simp; (try with_reducible rfl)
        try simp only [Act.put, List.setIfInBounds_toArray, List.set_cons_zero, List.set_cons_succ]
        refine held_take (v := ?_) 2 rfl rfl (by kernel_rfl) (by kernel_rfl) (by kernel_rfl) (fun _ _ _ h => h) (by rfl) ?_ (by assumption) ?_
        rotate_left
        · intro w hSw; (try dsimp only at hSw); go_simp; (try with_reducible rfl)
        try simp only [Act.put, List.setIfInBounds_toArray, List.set_cons_zero, List.set_cons_succ]
        refine held_take (v := ?_) 3 rfl rfl (by kernel_rfl) (by kernel_rfl) (by kernel_rfl) (fun _ _ _ h => h) (by rfl) ?_ (by assumption) ?_
        rotate_left
        · intro w hSw; (try dsimp only at hSw); go_simp; (try with_reducible rfl)
        try simp only [Act.put, List.setIfInBounds_toArray, List.set_cons_zero, List.set_cons_succ]
        refine held_take (v := ?_) 4 rfl rfl (by kernel_rfl) (by kernel_rfl) (by kernel_rfl) (fun _ _ _ h => h) (by rfl) ?_ (by assumption) ?_
        rotate_left
        · intro w hSw; (try dsimp only at hSw); go_simp; (try with_reducible rfl)
        try simp only [Act.put, List.setIfInBounds_toArray, List.set_cons_zero, List.set_cons_succ]
        refine held_take (v := ?_) 5 rfl rfl (by kernel_rfl) (by kernel_rfl) (by kernel_rfl) (fun _ _ _ h => h) (by rfl) ?_ (by assumption) ?_
        rotate_left
        · intro w hSw; (try dsimp only at hSw); go_simp; (try with_reducible rfl)
        try simp only [Act.put, List.setIfInBounds_toArray, List.set_cons_zero, List.set_cons_succ]
        refine held_take (v := ?_) 6 rfl rfl (by kernel_rfl) (by kernel_rfl) (by kernel_rfl) (fun _ _ _ h => h) (by rfl) ?_ (by assumption) ?_
        rotate_left
        · intro w hSw; (try dsimp only at hSw); go_simp; (try with_reducible rfl)
        try simp only [Act.put, List.setIfInBounds_toArray, List.set_cons_zero, List.set_cons_succ]
        refine held_take (v := ?_) 7 rfl rfl (by kernel_rfl) (by kernel_rfl) (by kernel_rfl) (fun _ _ _ h => h) (by rfl) ?_ (by assumption) ?_
        rotate_left
        · intro w hSw; (try dsimp only at hSw); go_simp; (try with_reducible rfl)
        try simp only [Act.put, List.setIfInBounds_toArray, List.set_cons_zero, List.set_cons_succ]
        refine held_take (v := ?_) 8 rfl rfl (by kernel_rfl) (by kernel_rfl) (by kernel_rfl) (fun _ _ _ h => h) (by rfl) ?_ (by assumption) ?_
        rotate_left
        · intro w hSw; (try dsimp only at hSw); go_simp; (try with_reducible rfl)
        try simp only [Act.put, List.setIfInBounds_toArray, List.set_cons_zero, List.set_cons_succ]
        refine held_take (v := ?_) 9 rfl rfl (by kernel_rfl) (by kernel_rfl) (by kernel_rfl) (fun _ _ _ h => h) (by rfl) ?_ (by assumption) ?_
        rotate_left
        · intro w hSw; (try dsimp only at hSw); go_simp; (try with_reducible rfl)
        try simp only [Act.put, List.setIfInBounds_toArray, List.set_cons_zero, List.set_cons_succ]
        refine held_step 10 rfl (by kernel_rfl) (by rfl) (fun K hK => ?_)
        go_simp
        have HBp10 := HB
        have BX10 : ((w2.drew).alloc (.cells #[.string ⟨#[]⟩, .bool false, .string ⟨#[]⟩, .slice none 0 0, .int .i64 0, .int .u64 0, .int .i64 0, .int .u64 0] 54)).heap[w2.heap.size]? = some (.cells #[.string ⟨#[]⟩, .bool false, .string ⟨#[]⟩, .slice none 0 0, .int .i64 0, .int .u64 0, .int .i64 0, .int .u64 0] 54) := blk_new (w2.drew) (.cells #[.string ⟨#[]⟩, .bool false, .string ⟨#[]⟩, .slice none 0 0, .int .i64 0, .int .u64 0, .int .i64 0, .int .u64 0] 54)
        have HG10 : w2.heap.size ≤ w2.heap.size := HB.size
        have HBa1 := Below.alloc HB HB.size (.cells #[.string ⟨#[]⟩, .bool false, .string ⟨#[]⟩, .slice none 0 0, .int .i64 0, .int .u64 0, .int .i64 0, .int .u64 0] 54)
        have HB := HBa1
        refine hK.out _ _ ⟨(HB.cell (p := ⟨g, 0, none⟩) lt1).trans k0, (HB.cell (p := ⟨rb, 4, none⟩) lt3).trans r4, (HB.cell (p := ⟨gg, 0, none⟩) lt4).trans e0, LK2.out _ HB⟩ (fun hHeld1 => ?_)
        clear hK K
        try simp only [Act.put, List.setIfInBounds_toArray, List.set_cons_zero, List.set_cons_succ]
        have hHeld := hHeld1
        refine held_step 11 rfl (by kernel_rfl) (by rfl) (fun K hK => ?_)
        go_simp
        have BX10 : ((w2.drew).alloc (.cells #[.string qcontact, .bool qkept, .string qname, .slice QA qgl qc, .int .i64 qo, .int .u64 qn, .int .i64 qi, .int .u64 qm] 54)).heap[w2.heap.size]? = some (.cells #[.string qcontact, .bool qkept, .string qname, .slice QA qgl qc, .int .i64 qo, .int .u64 qn, .int .i64 qi, .int .u64 qm] 54) := blk_new (w2.drew) (.cells #[.string qcontact, .bool qkept, .string qname, .slice QA qgl qc, .int .i64 qo, .int .u64 qn, .int .i64 qi, .int .u64 qm] 54)
        have HBe : Below w2.heap.size w2 ((w2.drew).alloc (.cells #[.string qcontact, .bool qkept, .string qname, .slice QA qgl qc, .int .i64 qo, .int .u64 qn, .int .i64 qi, .int .u64 qm] 54)) := Below.alloc HBp10 HBp10.size _
        have HB := HBe
        refine hK.out _ _ ⟨(HB.cell (p := ⟨g, 0, none⟩) lt1).trans k0, (HB.cell (p := ⟨rb, 4, none⟩) lt3).trans r4, (HB.cell (p := ⟨gg, 0, none⟩) lt4).trans e0, LK2.out _ HB⟩ (fun hHeld2 => ?_)
        clear hK K
        try simp only [Act.put, List.setIfInBounds_toArray, List.set_cons_zero, List.set_cons_succ]
        have hHeld := hHeld2
        refine held_take (v := ?_) 12 rfl rfl (by kernel_rfl) (by kernel_rfl) (by kernel_rfl) (fun _ _ _ h => h) (by rfl) ?_ (by assumption) ?_
        rotate_left
        · intro w hSw; (try dsimp only at hSw); go_simp; (try with_reducible rfl)
        try simp only [Act.put, List.setIfInBounds_toArray, List.set_cons_zero, List.set_cons_succ]
        refine wpAnyH_done (by kernel_rfl) ?_ _
        clear hHeld
        go_wp2_with fail
        go_meet
        exact ⟨rfl, HB⟩
      case rest =>
        obtain ⟨rfl, hb3⟩ := hcut
        go_step
        have HW3 := Lib.hid (HW2.out.trans (hb3.mono HW2.out.size))
        have BOX3 := Lib.hid (BOX2.out.below hb3)
        have RO3 := Lib.hid (RO2.out.below hb3)
        have EB3 := Lib.hid (blk_below EB2.out hb3 (blk_lt EB2.out))
        have GR3 := Lib.hid (GR2.out.kept fun k cur hk _ => hb3.block k (blk_lt hk))
        have HH3 := Lib.hid (blk_below HH2.out hb3 (blk_lt HH2.out))
        have LN := Lib.hid (fun w' (hb : Below wc.heap.size wc w') => LN2.out w' (hb3.trans (hb.mono hb3.size)))
        clear hb3 HW2 BOX2 RO2 EB2 GR2 HH2 LK2 LN2 k0 r4 e0 lt1 lt3 lt4
        have k0 : wc.cell? ⟨g, 0, none⟩ = some (.pointer (some ⟨rb, 0, none⟩)) := blk_cell BOX3.out.b0 0
        have k2 : wc.cell? ⟨g + 2, 0, none⟩ = some (.int .i64 k) := blk_cell BOX3.out.b2 0
        have r1 : wc.cell? ⟨rb, 1, none⟩ = some (.int .i64 R.asks) := blk_cell RO3.out.cells 1
        have r4 : wc.cell? ⟨rb, 4, none⟩ = some (.map (some mb)) := blk_cell RO3.out.cells 4
        have r5 : wc.cell? ⟨rb, 5, none⟩ = some (.int .i64 (R.kept : Nat)) := blk_cell RO3.out.cells 5
        have lt1 := blk_lt BOX3.out.b0
        have lt2 := blk_lt BOX3.out.b2
        have lt3 := RO3.out.lt.1
        have hlen := RO3.out.own.size_le
        rw [RO3.out.size] at hlen
        have hkl := R.kept_le
        have wsub : IntKind.i64.wrap ((R.list.length : Int) - (R.kept : Int)) = (R.list.length : Int) - (R.kept : Int) := IntWalk.i64_in _ (by have := HGL.out.2.2.1; omega)
        obtain ⟨fl, hfl0⟩ : ∃ fl, (!known && (k == 1 && decide (R.asks ≤ (R.list.length : Int) - (R.kept : Int)))) = fl := ⟨_, rfl⟩
        have HFL := Lib.hid hfl0
        clear hfl0
        go_upto_region 5 with fail
        go_cut [58] (fun s58 wx => s58 = .bool fl ∧ Below wc.heap.size wc wx)
        case first =>
          clear hlen hkl
          cases known
          · cases hk1 : (k == 1)
            · go_wp2_with fail
              refine wp_region_held_drew (S := fun w' => w'.cell? ⟨g, 0, none⟩ = some (.pointer (some ⟨rb, 0, none⟩)) ∧ w'.cell? ⟨g + 2, 0, none⟩ = some (.int .i64 k) ∧ w'.cell? ⟨rb, 1, none⟩ = some (.int .i64 R.asks) ∧ w'.cell? ⟨rb, 4, none⟩ = some (.map (some mb)) ∧ w'.cell? ⟨rb, 5, none⟩ = some (.int .i64 (R.kept : Nat)) ∧ (Builtin.len_ #[109] 3 #[.map (some mb)]).run Tryz.prog w' = .ok (.int .i64 (R.list.length : Nat)) w') (by kernel_rfl) ?_ (fun hHeld => ?_)
              · exact ⟨k0, k2, r1, r4, r5, LN.out _ (Below.refl _ _).drew⟩
              have HB : Below wc.heap.size wc wc.drew := (Below.refl _ _).drew
              refine held_take (v := ?_) 0 rfl rfl (by kernel_rfl) (by kernel_rfl) (by kernel_rfl) (fun _ _ _ h => h) (by rfl) ?_ (by assumption) ?_
              rotate_left
              · intro w hSw; (try dsimp only at hSw); go_simp; (try with_reducible rfl)
              try simp only [Act.put, List.setIfInBounds_toArray, List.set_cons_zero, List.set_cons_succ]
              refine held_take (v := ?_) 1 rfl rfl (by kernel_rfl) (by kernel_rfl) (by kernel_rfl) (fun _ _ _ h => h) (by rfl) ?_ (by assumption) ?_
              rotate_left
              · intro w hSw; (try dsimp only at hSw); go_simp; (try with_reducible rfl)
              try simp only [Act.put, List.setIfInBounds_toArray, List.set_cons_zero, List.set_cons_succ]
              refine held_take (v := ?_) 2 rfl rfl (by kernel_rfl) (by kernel_rfl) (by kernel_rfl) (fun _ _ _ h => h) (by rfl) ?_ (by assumption) ?_
              rotate_left
              · intro w hSw; (try dsimp only at hSw); go_simp; (try with_reducible rfl)
              try simp only [Act.put, List.setIfInBounds_toArray, List.set_cons_zero, List.set_cons_succ]
              refine held_take (v := ?_) 3 rfl rfl (by kernel_rfl) (by kernel_rfl) (by kernel_rfl) (fun _ _ _ h => h) (by rfl) ?_ (by assumption) ?_
              rotate_left
              · intro w hSw; (try dsimp only at hSw); go_simp; (try with_reducible rfl)
              try simp only [Act.put, List.setIfInBounds_toArray, List.set_cons_zero, List.set_cons_succ]
              refine held_take (v := ?_) 4 rfl rfl (by kernel_rfl) (by kernel_rfl) (by kernel_rfl) (fun _ _ _ h => h) (by rfl) ?_ (by assumption) ?_
              rotate_left
              · intro w hSw; (try dsimp only at hSw); go_simp; (try with_reducible rfl)
              try simp only [Act.put, List.setIfInBounds_toArray, List.set_cons_zero, List.set_cons_succ]
              refine held_take (v := ?_) 5 rfl rfl (by kernel_rfl) (by kernel_rfl) (by kernel_rfl) (fun _ _ _ h => h) (by rfl) ?_ (by assumption) ?_
              rotate_left
              · intro w hSw; (try dsimp only at hSw); go_simp; (try with_reducible rfl)
              try simp only [Act.put, List.setIfInBounds_toArray, List.set_cons_zero, List.set_cons_succ]
              refine held_take (v := ?_) 6 rfl rfl (by kernel_rfl) (by kernel_rfl) (by kernel_rfl) (fun _ _ _ h => h) (by rfl) ?_ (by assumption) ?_
              rotate_left
              · intro w hSw; (try dsimp only at hSw); go_simp; (try with_reducible rfl)
              try simp only [Act.put, List.setIfInBounds_toArray, List.set_cons_zero, List.set_cons_succ]
              refine held_skip 7 rfl rfl (by kernel_rfl) (by kernel_rfl) (by kernel_rfl) (fun _ _ _ h => h) (by rfl) (by assumption) ?_
              try simp only [Act.put, List.setIfInBounds_toArray, List.set_cons_zero, List.set_cons_succ]
              refine held_skip 8 rfl rfl (by kernel_rfl) (by kernel_rfl) (by kernel_rfl) (fun _ _ _ h => h) (by rfl) (by assumption) ?_
              try simp only [Act.put, List.setIfInBounds_toArray, List.set_cons_zero, List.set_cons_succ]
              refine held_skip 9 rfl rfl (by kernel_rfl) (by kernel_rfl) (by kernel_rfl) (fun _ _ _ h => h) (by rfl) (by assumption) ?_
              try simp only [Act.put, List.setIfInBounds_toArray, List.set_cons_zero, List.set_cons_succ]
              refine held_skip 10 rfl rfl (by kernel_rfl) (by kernel_rfl) (by kernel_rfl) (fun _ _ _ h => h) (by rfl) (by assumption) ?_
              try simp only [Act.put, List.setIfInBounds_toArray, List.set_cons_zero, List.set_cons_succ]
              refine held_skip 11 rfl rfl (by kernel_rfl) (by kernel_rfl) (by kernel_rfl) (fun _ _ _ h => h) (by rfl) (by assumption) ?_
              try simp only [Act.put, List.setIfInBounds_toArray, List.set_cons_zero, List.set_cons_succ]
              refine held_skip 12 rfl rfl (by kernel_rfl) (by kernel_rfl) (by kernel_rfl) (fun _ _ _ h => h) (by rfl) (by assumption) ?_
              try simp only [Act.put, List.setIfInBounds_toArray, List.set_cons_zero, List.set_cons_succ]
              refine held_skip 13 rfl rfl (by kernel_rfl) (by kernel_rfl) (by kernel_rfl) (fun _ _ _ h => h) (by rfl) (by assumption) ?_
              try simp only [Act.put, List.setIfInBounds_toArray, List.set_cons_zero, List.set_cons_succ]
              refine held_skip 14 rfl rfl (by kernel_rfl) (by kernel_rfl) (by kernel_rfl) (fun _ _ _ h => h) (by rfl) (by assumption) ?_
              try simp only [Act.put, List.setIfInBounds_toArray, List.set_cons_zero, List.set_cons_succ]
              refine held_skip 15 rfl rfl (by kernel_rfl) (by kernel_rfl) (by kernel_rfl) (fun _ _ _ h => h) (by rfl) (by assumption) ?_
              try simp only [Act.put, List.setIfInBounds_toArray, List.set_cons_zero, List.set_cons_succ]
              refine held_skip 16 rfl rfl (by kernel_rfl) (by kernel_rfl) (by kernel_rfl) (fun _ _ _ h => h) (by rfl) (by assumption) ?_
              try simp only [Act.put, List.setIfInBounds_toArray, List.set_cons_zero, List.set_cons_succ]
              refine held_skip 17 rfl rfl (by kernel_rfl) (by kernel_rfl) (by kernel_rfl) (fun _ _ _ h => h) (by rfl) (by assumption) ?_
              try simp only [Act.put, List.setIfInBounds_toArray, List.set_cons_zero, List.set_cons_succ]
              refine held_skip 18 rfl rfl (by kernel_rfl) (by kernel_rfl) (by kernel_rfl) (fun _ _ _ h => h) (by rfl) (by assumption) ?_
              try simp only [Act.put, List.setIfInBounds_toArray, List.set_cons_zero, List.set_cons_succ]
              refine held_skip 19 rfl rfl (by kernel_rfl) (by kernel_rfl) (by kernel_rfl) (fun _ _ _ h => h) (by rfl) (by assumption) ?_
              try simp only [Act.put, List.setIfInBounds_toArray, List.set_cons_zero, List.set_cons_succ]
              refine held_skip 20 rfl rfl (by kernel_rfl) (by kernel_rfl) (by kernel_rfl) (fun _ _ _ h => h) (by rfl) (by assumption) ?_
              try simp only [Act.put, List.setIfInBounds_toArray, List.set_cons_zero, List.set_cons_succ]
              refine held_skip 21 rfl rfl (by kernel_rfl) (by kernel_rfl) (by kernel_rfl) (fun _ _ _ h => h) (by rfl) (by assumption) ?_
              try simp only [Act.put, List.setIfInBounds_toArray, List.set_cons_zero, List.set_cons_succ]
              refine held_take (v := ?_) 22 rfl rfl (by kernel_rfl) (by kernel_rfl) (by kernel_rfl) (fun _ _ _ h => h) (by rfl) ?_ (by assumption) ?_
              rotate_left
              · intro w hSw; (try dsimp only at hSw); go_simp; (try with_reducible rfl)
              try simp only [Act.put, List.setIfInBounds_toArray, List.set_cons_zero, List.set_cons_succ]
              refine wpAnyH_done (by kernel_rfl) ?_ _
              clear hHeld
              go_wp2_with fail
              go_meet
              exact ⟨by rw [← HFL.out]; simp [hk1], HB⟩
            · cases hfl : decide (R.asks ≤ (R.list.length : Int) - (R.kept : Int))
              all_goals
                go_wp2_with fail
                refine wp_region_held_drew (S := fun w' => w'.cell? ⟨g, 0, none⟩ = some (.pointer (some ⟨rb, 0, none⟩)) ∧ w'.cell? ⟨g + 2, 0, none⟩ = some (.int .i64 k) ∧ w'.cell? ⟨rb, 1, none⟩ = some (.int .i64 R.asks) ∧ w'.cell? ⟨rb, 4, none⟩ = some (.map (some mb)) ∧ w'.cell? ⟨rb, 5, none⟩ = some (.int .i64 (R.kept : Nat)) ∧ (Builtin.len_ #[109] 3 #[.map (some mb)]).run Tryz.prog w' = .ok (.int .i64 (R.list.length : Nat)) w') (by kernel_rfl) ?_ (fun hHeld => ?_)
                · exact ⟨k0, k2, r1, r4, r5, LN.out _ (Below.refl _ _).drew⟩
                have HB : Below wc.heap.size wc wc.drew := (Below.refl _ _).drew
                refine held_take (v := ?_) 0 rfl rfl (by kernel_rfl) (by kernel_rfl) (by kernel_rfl) (fun _ _ _ h => h) (by rfl) ?_ (by assumption) ?_
                rotate_left
                · intro w hSw; (try dsimp only at hSw); go_simp; (try with_reducible rfl)
                try simp only [Act.put, List.setIfInBounds_toArray, List.set_cons_zero, List.set_cons_succ]
                refine held_take (v := ?_) 1 rfl rfl (by kernel_rfl) (by kernel_rfl) (by kernel_rfl) (fun _ _ _ h => h) (by rfl) ?_ (by assumption) ?_
                rotate_left
                · intro w hSw; (try dsimp only at hSw); go_simp; (try with_reducible rfl)
                try simp only [Act.put, List.setIfInBounds_toArray, List.set_cons_zero, List.set_cons_succ]
                refine held_take (v := ?_) 2 rfl rfl (by kernel_rfl) (by kernel_rfl) (by kernel_rfl) (fun _ _ _ h => h) (by rfl) ?_ (by assumption) ?_
                rotate_left
                · intro w hSw; (try dsimp only at hSw); go_simp; (try with_reducible rfl)
                try simp only [Act.put, List.setIfInBounds_toArray, List.set_cons_zero, List.set_cons_succ]
                refine held_take (v := ?_) 3 rfl rfl (by kernel_rfl) (by kernel_rfl) (by kernel_rfl) (fun _ _ _ h => h) (by rfl) ?_ (by assumption) ?_
                rotate_left
                · intro w hSw; (try dsimp only at hSw); go_simp; (try with_reducible rfl)
                try simp only [Act.put, List.setIfInBounds_toArray, List.set_cons_zero, List.set_cons_succ]
                refine held_take (v := ?_) 4 rfl rfl (by kernel_rfl) (by kernel_rfl) (by kernel_rfl) (fun _ _ _ h => h) (by rfl) ?_ (by assumption) ?_
                rotate_left
                · intro w hSw; (try dsimp only at hSw); go_simp; (try with_reducible rfl)
                try simp only [Act.put, List.setIfInBounds_toArray, List.set_cons_zero, List.set_cons_succ]
                refine held_take (v := ?_) 5 rfl rfl (by kernel_rfl) (by kernel_rfl) (by kernel_rfl) (fun _ _ _ h => h) (by rfl) ?_ (by assumption) ?_
                rotate_left
                · intro w hSw; (try dsimp only at hSw); go_simp; (try with_reducible rfl)
                try simp only [Act.put, List.setIfInBounds_toArray, List.set_cons_zero, List.set_cons_succ]
                refine held_take (v := ?_) 6 rfl rfl (by kernel_rfl) (by kernel_rfl) (by kernel_rfl) (fun _ _ _ h => h) (by rfl) ?_ (by assumption) ?_
                rotate_left
                · intro w hSw; (try dsimp only at hSw); go_simp; (try with_reducible rfl)
                try simp only [Act.put, List.setIfInBounds_toArray, List.set_cons_zero, List.set_cons_succ]
                refine held_take (v := ?_) 7 rfl rfl (by kernel_rfl) (by kernel_rfl) (by kernel_rfl) (fun _ _ _ h => h) (by rfl) ?_ (by assumption) ?_
                rotate_left
                · intro w hSw; (try dsimp only at hSw); go_simp; (try with_reducible rfl)
                try simp only [Act.put, List.setIfInBounds_toArray, List.set_cons_zero, List.set_cons_succ]
                refine held_take (v := ?_) 8 rfl rfl (by kernel_rfl) (by kernel_rfl) (by kernel_rfl) (fun _ _ _ h => h) (by rfl) ?_ (by assumption) ?_
                rotate_left
                · intro w hSw; (try dsimp only at hSw); go_simp; (try with_reducible rfl)
                try simp only [Act.put, List.setIfInBounds_toArray, List.set_cons_zero, List.set_cons_succ]
                refine held_take (v := ?_) 9 rfl rfl (by kernel_rfl) (by kernel_rfl) (by kernel_rfl) (fun _ _ _ h => h) (by rfl) ?_ (by assumption) ?_
                rotate_left
                · intro w hSw; (try dsimp only at hSw); go_simp; (try with_reducible rfl)
                try simp only [Act.put, List.setIfInBounds_toArray, List.set_cons_zero, List.set_cons_succ]
                refine held_take (v := ?_) 10 rfl rfl (by kernel_rfl) (by kernel_rfl) (by kernel_rfl) (fun _ _ _ h => h) (by rfl) ?_ (by assumption) ?_
                rotate_left
                · intro w hSw; (try dsimp only at hSw); go_simp; (try with_reducible rfl)
                try simp only [Act.put, List.setIfInBounds_toArray, List.set_cons_zero, List.set_cons_succ]
                refine held_take (v := ?_) 11 rfl rfl (by kernel_rfl) (by kernel_rfl) (by kernel_rfl) (fun _ _ _ h => h) (by rfl) ?_ (by assumption) ?_
                rotate_left
                · intro w hSw; (try dsimp only at hSw); go_simp; (try with_reducible rfl)
                try simp only [Act.put, List.setIfInBounds_toArray, List.set_cons_zero, List.set_cons_succ]
                refine held_take (v := ?_) 12 rfl rfl (by kernel_rfl) (by kernel_rfl) (by kernel_rfl) (fun _ _ _ h => h) (by rfl) ?_ (by assumption) ?_
                rotate_left
                · intro w hSw; (try dsimp only at hSw); go_simp; (try with_reducible rfl)
                try simp only [Act.put, List.setIfInBounds_toArray, List.set_cons_zero, List.set_cons_succ]
                refine held_take (v := ?_) 13 rfl rfl (by kernel_rfl) (by kernel_rfl) (by kernel_rfl) (fun _ _ _ h => h) (by rfl) ?_ (by assumption) ?_
                rotate_left
                · intro w hSw; (try dsimp only at hSw); go_simp; (try with_reducible rfl)
                try simp only [Act.put, List.setIfInBounds_toArray, List.set_cons_zero, List.set_cons_succ]
                refine held_take (v := ?_) 14 rfl rfl (by kernel_rfl) (by kernel_rfl) (by kernel_rfl) (fun _ _ _ h => h) (by rfl) ?_ (by assumption) ?_
                rotate_left
                · intro w hSw; (try dsimp only at hSw); go_simp; (try with_reducible rfl)
                try simp only [Act.put, List.setIfInBounds_toArray, List.set_cons_zero, List.set_cons_succ]
                refine held_take (v := ?_) 15 rfl rfl (by kernel_rfl) (by kernel_rfl) (by kernel_rfl) (fun _ _ _ h => h) (by rfl) ?_ (by assumption) ?_
                rotate_left
                · intro w hSw; (try dsimp only at hSw); go_simp; (try with_reducible rfl)
                try simp only [Act.put, List.setIfInBounds_toArray, List.set_cons_zero, List.set_cons_succ]
                refine held_take (v := ?_) 16 rfl rfl (by kernel_rfl) (by kernel_rfl) (by kernel_rfl) (fun _ _ _ h => h) (by rfl) ?_ (by assumption) ?_
                rotate_left
                · intro w hSw; (try dsimp only at hSw); go_simp; (try with_reducible rfl)
                try simp only [Act.put, List.setIfInBounds_toArray, List.set_cons_zero, List.set_cons_succ]
                refine held_take (v := ?_) 17 rfl rfl (by kernel_rfl) (by kernel_rfl) (by kernel_rfl) (fun _ _ _ h => h) (by rfl) ?_ (by assumption) ?_
                rotate_left
                · intro w hSw; (try dsimp only at hSw); go_simp; (try with_reducible rfl)
                try simp only [Act.put, List.setIfInBounds_toArray, List.set_cons_zero, List.set_cons_succ]
                refine held_take (v := ?_) 18 rfl rfl (by kernel_rfl) (by kernel_rfl) (by kernel_rfl) (fun _ _ _ h => h) (by rfl) ?_ (by assumption) ?_
                rotate_left
                · intro w hSw; (try dsimp only at hSw); go_simp; (try with_reducible rfl)
                try simp only [Act.put, List.setIfInBounds_toArray, List.set_cons_zero, List.set_cons_succ]
                refine held_take (v := ?_) 19 rfl rfl (by kernel_rfl) (by kernel_rfl) (by kernel_rfl) (fun _ _ _ h => h) (by rfl) ?_ (by assumption) ?_
                rotate_left
                · intro w hSw; (try dsimp only at hSw); go_simp; (try with_reducible rfl)
                try simp only [Act.put, List.setIfInBounds_toArray, List.set_cons_zero, List.set_cons_succ]
                refine held_take (v := ?_) 20 rfl rfl (by kernel_rfl) (by kernel_rfl) (by kernel_rfl) (fun _ _ _ h => h) (by rfl) ?_ (by assumption) ?_
                rotate_left
                · intro w hSw; (try dsimp only at hSw); go_simp; (try with_reducible rfl)
                try simp only [Act.put, List.setIfInBounds_toArray, List.set_cons_zero, List.set_cons_succ]
                refine held_take (v := ?_) 21 rfl rfl (by kernel_rfl) (by kernel_rfl) (by kernel_rfl) (fun _ _ _ h => h) (by rfl) ?_ (by assumption) ?_
                rotate_left
                · intro w hSw; (try dsimp only at hSw); go_simp; (try with_reducible rfl)
                try simp only [Act.put, List.setIfInBounds_toArray, List.set_cons_zero, List.set_cons_succ]
                refine held_take (v := ?_) 22 rfl rfl (by kernel_rfl) (by kernel_rfl) (by kernel_rfl) (fun _ _ _ h => h) (by rfl) ?_ (by assumption) ?_
                rotate_left
                · intro w hSw; (try dsimp only at hSw); go_simp; (try with_reducible rfl)
                try simp only [Act.put, List.setIfInBounds_toArray, List.set_cons_zero, List.set_cons_succ]
                refine wpAnyH_done (by kernel_rfl) ?_ _
                clear hHeld
                go_wp2_with fail
                go_meet
                exact ⟨by rw [← HFL.out]; simp [hk1, hfl], HB⟩
          · go_wp2_with fail
            refine wp_region_held_drew (S := fun w' => w'.cell? ⟨g, 0, none⟩ = some (.pointer (some ⟨rb, 0, none⟩)) ∧ w'.cell? ⟨g + 2, 0, none⟩ = some (.int .i64 k) ∧ w'.cell? ⟨rb, 1, none⟩ = some (.int .i64 R.asks) ∧ w'.cell? ⟨rb, 4, none⟩ = some (.map (some mb)) ∧ w'.cell? ⟨rb, 5, none⟩ = some (.int .i64 (R.kept : Nat)) ∧ (Builtin.len_ #[109] 3 #[.map (some mb)]).run Tryz.prog w' = .ok (.int .i64 (R.list.length : Nat)) w') (by kernel_rfl) ?_ (fun hHeld => ?_)
            · exact ⟨k0, k2, r1, r4, r5, LN.out _ (Below.refl _ _).drew⟩
            have HB : Below wc.heap.size wc wc.drew := (Below.refl _ _).drew
            refine held_take (v := ?_) 0 rfl rfl (by kernel_rfl) (by kernel_rfl) (by kernel_rfl) (fun _ _ _ h => h) (by rfl) ?_ (by assumption) ?_
            rotate_left
            · intro w hSw; (try dsimp only at hSw); go_simp; (try with_reducible rfl)
            try simp only [Act.put, List.setIfInBounds_toArray, List.set_cons_zero, List.set_cons_succ]
            refine held_take (v := ?_) 1 rfl rfl (by kernel_rfl) (by kernel_rfl) (by kernel_rfl) (fun _ _ _ h => h) (by rfl) ?_ (by assumption) ?_
            rotate_left
            · intro w hSw; (try dsimp only at hSw); go_simp; (try with_reducible rfl)
            try simp only [Act.put, List.setIfInBounds_toArray, List.set_cons_zero, List.set_cons_succ]
            refine held_take (v := ?_) 2 rfl rfl (by kernel_rfl) (by kernel_rfl) (by kernel_rfl) (fun _ _ _ h => h) (by rfl) ?_ (by assumption) ?_
            rotate_left
            · intro w hSw; (try dsimp only at hSw); go_simp; (try with_reducible rfl)
            try simp only [Act.put, List.setIfInBounds_toArray, List.set_cons_zero, List.set_cons_succ]
            refine held_skip 3 rfl rfl (by kernel_rfl) (by kernel_rfl) (by kernel_rfl) (fun _ _ _ h => h) (by rfl) (by assumption) ?_
            try simp only [Act.put, List.setIfInBounds_toArray, List.set_cons_zero, List.set_cons_succ]
            refine held_skip 4 rfl rfl (by kernel_rfl) (by kernel_rfl) (by kernel_rfl) (fun _ _ _ h => h) (by rfl) (by assumption) ?_
            try simp only [Act.put, List.setIfInBounds_toArray, List.set_cons_zero, List.set_cons_succ]
            refine held_take (v := ?_) 5 rfl rfl (by kernel_rfl) (by kernel_rfl) (by kernel_rfl) (fun _ _ _ h => h) (by rfl) ?_ (by assumption) ?_
            rotate_left
            · intro w hSw; (try dsimp only at hSw); go_simp; (try with_reducible rfl)
            try simp only [Act.put, List.setIfInBounds_toArray, List.set_cons_zero, List.set_cons_succ]
            refine held_take (v := ?_) 6 rfl rfl (by kernel_rfl) (by kernel_rfl) (by kernel_rfl) (fun _ _ _ h => h) (by rfl) ?_ (by assumption) ?_
            rotate_left
            · intro w hSw; (try dsimp only at hSw); go_simp; (try with_reducible rfl)
            try simp only [Act.put, List.setIfInBounds_toArray, List.set_cons_zero, List.set_cons_succ]
            refine held_skip 7 rfl rfl (by kernel_rfl) (by kernel_rfl) (by kernel_rfl) (fun _ _ _ h => h) (by rfl) (by assumption) ?_
            try simp only [Act.put, List.setIfInBounds_toArray, List.set_cons_zero, List.set_cons_succ]
            refine held_skip 8 rfl rfl (by kernel_rfl) (by kernel_rfl) (by kernel_rfl) (fun _ _ _ h => h) (by rfl) (by assumption) ?_
            try simp only [Act.put, List.setIfInBounds_toArray, List.set_cons_zero, List.set_cons_succ]
            refine held_skip 9 rfl rfl (by kernel_rfl) (by kernel_rfl) (by kernel_rfl) (fun _ _ _ h => h) (by rfl) (by assumption) ?_
            try simp only [Act.put, List.setIfInBounds_toArray, List.set_cons_zero, List.set_cons_succ]
            refine held_skip 10 rfl rfl (by kernel_rfl) (by kernel_rfl) (by kernel_rfl) (fun _ _ _ h => h) (by rfl) (by assumption) ?_
            try simp only [Act.put, List.setIfInBounds_toArray, List.set_cons_zero, List.set_cons_succ]
            refine held_skip 11 rfl rfl (by kernel_rfl) (by kernel_rfl) (by kernel_rfl) (fun _ _ _ h => h) (by rfl) (by assumption) ?_
            try simp only [Act.put, List.setIfInBounds_toArray, List.set_cons_zero, List.set_cons_succ]
            refine held_skip 12 rfl rfl (by kernel_rfl) (by kernel_rfl) (by kernel_rfl) (fun _ _ _ h => h) (by rfl) (by assumption) ?_
            try simp only [Act.put, List.setIfInBounds_toArray, List.set_cons_zero, List.set_cons_succ]
            refine held_skip 13 rfl rfl (by kernel_rfl) (by kernel_rfl) (by kernel_rfl) (fun _ _ _ h => h) (by rfl) (by assumption) ?_
            try simp only [Act.put, List.setIfInBounds_toArray, List.set_cons_zero, List.set_cons_succ]
            refine held_skip 14 rfl rfl (by kernel_rfl) (by kernel_rfl) (by kernel_rfl) (fun _ _ _ h => h) (by rfl) (by assumption) ?_
            try simp only [Act.put, List.setIfInBounds_toArray, List.set_cons_zero, List.set_cons_succ]
            refine held_skip 15 rfl rfl (by kernel_rfl) (by kernel_rfl) (by kernel_rfl) (fun _ _ _ h => h) (by rfl) (by assumption) ?_
            try simp only [Act.put, List.setIfInBounds_toArray, List.set_cons_zero, List.set_cons_succ]
            refine held_skip 16 rfl rfl (by kernel_rfl) (by kernel_rfl) (by kernel_rfl) (fun _ _ _ h => h) (by rfl) (by assumption) ?_
            try simp only [Act.put, List.setIfInBounds_toArray, List.set_cons_zero, List.set_cons_succ]
            refine held_skip 17 rfl rfl (by kernel_rfl) (by kernel_rfl) (by kernel_rfl) (fun _ _ _ h => h) (by rfl) (by assumption) ?_
            try simp only [Act.put, List.setIfInBounds_toArray, List.set_cons_zero, List.set_cons_succ]
            refine held_skip 18 rfl rfl (by kernel_rfl) (by kernel_rfl) (by kernel_rfl) (fun _ _ _ h => h) (by rfl) (by assumption) ?_
            try simp only [Act.put, List.setIfInBounds_toArray, List.set_cons_zero, List.set_cons_succ]
            refine held_skip 19 rfl rfl (by kernel_rfl) (by kernel_rfl) (by kernel_rfl) (fun _ _ _ h => h) (by rfl) (by assumption) ?_
            try simp only [Act.put, List.setIfInBounds_toArray, List.set_cons_zero, List.set_cons_succ]
            refine held_skip 20 rfl rfl (by kernel_rfl) (by kernel_rfl) (by kernel_rfl) (fun _ _ _ h => h) (by rfl) (by assumption) ?_
            try simp only [Act.put, List.setIfInBounds_toArray, List.set_cons_zero, List.set_cons_succ]
            refine held_skip 21 rfl rfl (by kernel_rfl) (by kernel_rfl) (by kernel_rfl) (fun _ _ _ h => h) (by rfl) (by assumption) ?_
            try simp only [Act.put, List.setIfInBounds_toArray, List.set_cons_zero, List.set_cons_succ]
            refine held_take (v := ?_) 22 rfl rfl (by kernel_rfl) (by kernel_rfl) (by kernel_rfl) (fun _ _ _ h => h) (by rfl) ?_ (by assumption) ?_
            rotate_left
            · intro w hSw; (try dsimp only at hSw); go_simp; (try with_reducible rfl)
            try simp only [Act.put, List.setIfInBounds_toArray, List.set_cons_zero, List.set_cons_succ]
            refine wpAnyH_done (by kernel_rfl) ?_ _
            clear hHeld
            go_wp2_with fail
            go_meet
            exact ⟨by rw [← HFL.out]; rfl, HB⟩
        case rest =>
          obtain ⟨rfl, hb4⟩ := hcut
          go_step
          have HW4 := Lib.hid (HW3.out.trans (hb4.mono HW3.out.size))
          have BOX4 := Lib.hid (BOX3.out.below hb4)
          have RO4 := Lib.hid (RO3.out.below hb4)
          have EB4 := Lib.hid (blk_below EB3.out hb4 (blk_lt EB3.out))
          have GR4 := Lib.hid (GR3.out.kept fun k cur hk _ => hb4.block k (blk_lt hk))
          have HH4 := Lib.hid (blk_below HH3.out hb4 (blk_lt HH3.out))
          clear hb4 HW3 BOX3 RO3 EB3 GR3 HH3 LN k0 k2 r1 r4 r5 lt1 lt2 lt3 hlen hkl wsub
          have hl4 := blk_lt HX.out.b4
          have hl4' := blk_lt BOX4.out.b4
          have s4 : ∀ (k : Nat) (cur : Array Value), wc.heap[k]? = some (.cells cur 9 (0, 0)) → B ≤ k → ¬ k = g + 4 := fun k cur hk _ e => by subst e; rw [BOX4.out.b4] at hk; simp at hk
          have S4 := Lib.hid s4
          clear s4
          by_cases hfull : known = false ∧ k = 1 ∧ R.asks ≤ (R.list.length : Int) - (R.kept : Int)
          · have hb := HFL.out
            rw [hfull.1] at hb
            simp [hfull.2.1, hfull.2.2] at hb
            subst hb
            have hres : RES = .ok (R, 0, true, false) := HRES.out.1.symm.trans (RS.hear_full HRES.out.2.1 HRES.out.2.2.1 HRES.out.2.2.2.1 HS.out ⟨HRES.out.2.2.2.2.trans hfull.1, hfull.2⟩)
            have HRS := Lib.hid hres
            obtain ⟨y0, y1, y2, z0, z1, z2⟩ := cells3 BOX4.out.b4
            clear hfull hres HRES
            go_wp2_with fail
            rw [HRS.out]
            have hs : Upd wc.heap.size (fun k => k = g + 4) wc (wc.setCell ⟨g + 4, 1, none⟩ (.bool true)) := Upd.setCell (ks := fun k => k = g + 4) (Upd.refl _ _ _) (a := (⟨g + 4, 1, none⟩ : Addr)) (.inl rfl) _
            exact bodyPost_ret (results_none rfl _ _ _) rfl ⟨rfl, ⟨_, _, Nat.le_succ _, RoAtK.upd RO4.out hs (Nat.le_refl _) (by have := HGB.out; omega) (by have := HGB.out; omega) S4.out⟩, Upd.setCell (ks := fun k => k = rb ∨ k = mb ∨ k = g + 4) (Upd.of_below HW4.out (Nat.le_refl _)) (a := (⟨g + 4, 1, none⟩ : Addr)) (.inl (.inr (.inr rfl))) _, blk_set_same BOX4.out.b4 1 _⟩
          · have hb : fl = false := by
              rw [← HFL.out]
              cases hkn : known
              · by_cases hk1 : k = 1
                · have : ¬ R.asks ≤ (R.list.length : Int) - (R.kept : Int) := fun e => hfull ⟨hkn, hk1, e⟩
                  simp [this]
                · simp [hk1]
              · rfl
            subst hb
            have hres : RES = .ok (R.set (⟨contact, kept, name, groups, ⟨ao, an, ai, am⟩⟩ : Ent), t2, false, kept && !(halfEq ⟨ao, an, ai, am⟩ ⟨o, hn', i, m⟩)) := HRES.out.1.symm.trans (RS.hear_do HRES.out.2.1 HRES.out.2.2.1 HRES.out.2.2.2.1 HS.out (fun e => hfull ⟨HRES.out.2.2.2.2.symm.trans e.1, e.2⟩))
            have hneq := run_half_neq ⟨ao, an, ai, am⟩ ⟨o, hn', i, m⟩
            generalize (!(halfEq (Half.mk ao an ai am) (Half.mk o hn' i m))) = df at hres hneq
            simp only [Half.val] at hneq
            have HRS := Lib.hid hres
            clear hfull hres HRES HS
            obtain ⟨x0, x1, x2, x3, x4, x5, x6, x7, xz0, xz1, xz2, xz3, xz4, xz5, xz6, xz7⟩ := cells8 EB4.out
            obtain ⟨h0, h1, h2, h3, _, _, _, _⟩ := cells4 HH4.out
            obtain ⟨y0, y1, y2, z0, z1, z2⟩ := cells3 BOX4.out.b4
            have ng1 : ¬ gg = g + 4 := by have := HGG.out.1; omega
            have ng2 : ¬ g2 = g + 4 := by have := HGG.out.2.1; omega
            have ng3 : ¬ g + 4 = gg := fun e => ng1 e.symm
            have ng4 : ¬ g + 4 = g2 := fun e => ng2 e.symm
            go_upto_region 7 with fail
            go_cut [68] (fun s68 wx => s68 = .bool (kept && df) ∧ wx.heap[g + 4]? = some (.cells #[.int .i64 t2, .bool false, .bool (kept && df)] 63) ∧ Upd wc.heap.size (fun k => k = g + 4) wc wx)
            case first =>
              have HBX := Lib.hid BOX4.out.b4
              cases kept
              all_goals
                go_wp2_with fail
                go_region
                all_goals
                  go_wp2_with fail
                  go_meet
                  exact ⟨rfl, blk_drew (blk_set_same (blk_set_same HBX.out 0 _) 2 _), (Upd.setCell (ks := fun k => k = g + 4) (Upd.setCell (ks := fun k => k = g + 4) (Upd.refl _ _ _) (a := (⟨g + 4, 0, none⟩ : Addr)) (.inl rfl) _) (a := (⟨g + 4, 2, none⟩ : Addr)) (.inl rfl) _).drew⟩
            case rest =>
              obtain ⟨rfl, hb5, hu5⟩ := hcut
              go_step
              have EB5 := Lib.hid (blk_upd EB4.out hu5 (blk_lt EB4.out) ng1)
              have HH5 := Lib.hid (blk_upd HH4.out hu5 (blk_lt HH4.out) ng2)
              have RO5 := Lib.hid (RoAtK.upd RO4.out hu5 (Nat.le_refl _) (by have := HGB.out; omega) (by have := HGB.out; omega) S4.out)
              have GR5 := Lib.hid (GR4.out.kept fun k cur hk hB => hu5.block k (blk_lt hk) (S4.out k cur hk (Nat.le_trans HGL.out.2.2.2 hB)))
              have K5 := Lib.hid (blk_upd BOX4.out.b0 hu5 (blk_lt BOX4.out.b0) (by omega))
              have HB5 := Lib.hid hb5
              have HU5 : Hid (Upd W.heap.size (fun k => k = rb ∨ k = mb ∨ k = g + 4) W wc) := Lib.hid ⟨hu5.os.trans HW4.out.os, hu5.tape.trans HW4.out.tape, hu5.output.trans HW4.out.output, Nat.le_trans HW4.out.size hu5.size, fun k hk hn => (hu5.block k (by have := HW4.out.size; omega) (fun e => hn (.inr (.inr e)))).trans (HW4.out.block k hk)⟩
              have hl5 := blk_lt hb5
              clear hb5 hu5 HW4 BOX4 RO4 EB4 GR4 HH4 S4 x0 x1 x2 x3 x4 x5 x6 x7 xz0 xz1 xz2 xz3 xz4 xz5 xz6 xz7 h0 h1 h2 h3 y0 y1 y2 z0 z1 z2 hneq
              have k0 : wc.cell? ⟨g, 0, none⟩ = some (.pointer (some ⟨rb, 0, none⟩)) := blk_cell K5.out 0
              obtain ⟨x0, x1, x2, x3, x4, x5, x6, x7, xz0, xz1, xz2, xz3, xz4, xz5, xz6, xz7⟩ := cells8 EB5.out
              obtain ⟨h0, h1, h2, h3, _, _, _, _⟩ := cells4 HH5.out
              have rlt := RO5.out.lt
              have nrg : rb ≠ gg := by have := HGG.out.1; have := HGB.out; omega
              have nmg : mb ≠ gg := by have := HGG.out.1; have := HGB.out; omega
              have nhg : g + 4 ≠ gg := by have := HGG.out.1; omega
              have ne_ggg2 : ¬ gg = g2 := by have := HGG.out; omega
              have ne2_ggg2 : ¬ g2 = gg := fun e => ne_ggg2 e.symm
              have ne3_ggg2 : (gg == g2) = false := by simpa using ne_ggg2
              have ne_ggg : ¬ g = gg := by have := HGG.out; omega
              have ne2_ggg : ¬ gg = g := fun e => ne_ggg e.symm
              have ne3_ggg : (g == gg) = false := by simpa using ne_ggg
              have su1 : Upd wc.heap.size (fun k => k = gg) wc (wc.setCell ⟨gg, 4, none⟩ (.int .i64 ao)) := Upd.setCell (ks := fun k => k = gg) (Upd.refl _ _ _) (a := (⟨gg, 4, none⟩ : Addr)) (.inl rfl) _
              have hz1 := RoAtK.upd (RO5.out) su1 (Nat.le_refl _) nrg nmg (fun k cur hk _ e => by subst e; rw [EB5.out] at hk; simp at hk)
              have gr1 : Grp (wc.setCell ⟨gg, 4, none⟩ (.int .i64 ao)) W.heap.size (.slice A groups.length c) groups := (GR5.out).kept fun k cur hk _ => su1.block k (blk_lt hk) (fun e => by subst e; rw [EB5.out] at hk; simp at hk)
              have eb1 : (wc.setCell ⟨gg, 4, none⟩ (.int .i64 ao)).heap[gg]? = some (.cells #[.string contact, .bool kept, .string name, .slice A groups.length c, .int .i64 ao, .int .u64 hn', .int .i64 i, .int .u64 m] 54) := blk_set_same (EB5.out) 4 _
              have hb1 := blk_set_other (HB5.out) (a := (⟨gg, 4, none⟩ : Addr)) (.int .i64 ao) nhg
              have su2 : Upd (wc.setCell ⟨gg, 4, none⟩ (.int .i64 ao)).heap.size (fun k => k = gg) (wc.setCell ⟨gg, 4, none⟩ (.int .i64 ao)) ((wc.setCell ⟨gg, 4, none⟩ (.int .i64 ao)).setCell ⟨gg, 5, none⟩ (.int .u64 an)) := Upd.setCell (ks := fun k => k = gg) (Upd.refl _ _ _) (a := (⟨gg, 5, none⟩ : Addr)) (.inl rfl) _
              have hz2 := RoAtK.upd (hz1) su2 (Nat.le_refl _) nrg nmg (fun k cur hk _ e => by subst e; rw [eb1] at hk; simp at hk)
              have gr2 : Grp ((wc.setCell ⟨gg, 4, none⟩ (.int .i64 ao)).setCell ⟨gg, 5, none⟩ (.int .u64 an)) W.heap.size (.slice A groups.length c) groups := (gr1).kept fun k cur hk _ => su2.block k (blk_lt hk) (fun e => by subst e; rw [eb1] at hk; simp at hk)
              have eb2 : ((wc.setCell ⟨gg, 4, none⟩ (.int .i64 ao)).setCell ⟨gg, 5, none⟩ (.int .u64 an)).heap[gg]? = some (.cells #[.string contact, .bool kept, .string name, .slice A groups.length c, .int .i64 ao, .int .u64 an, .int .i64 i, .int .u64 m] 54) := blk_set_same (eb1) 5 _
              have hb2 := blk_set_other (hb1) (a := (⟨gg, 5, none⟩ : Addr)) (.int .u64 an) nhg
              have su3 : Upd ((wc.setCell ⟨gg, 4, none⟩ (.int .i64 ao)).setCell ⟨gg, 5, none⟩ (.int .u64 an)).heap.size (fun k => k = gg) ((wc.setCell ⟨gg, 4, none⟩ (.int .i64 ao)).setCell ⟨gg, 5, none⟩ (.int .u64 an)) (((wc.setCell ⟨gg, 4, none⟩ (.int .i64 ao)).setCell ⟨gg, 5, none⟩ (.int .u64 an)).setCell ⟨gg, 6, none⟩ (.int .i64 ai)) := Upd.setCell (ks := fun k => k = gg) (Upd.refl _ _ _) (a := (⟨gg, 6, none⟩ : Addr)) (.inl rfl) _
              have hz3 := RoAtK.upd (hz2) su3 (Nat.le_refl _) nrg nmg (fun k cur hk _ e => by subst e; rw [eb2] at hk; simp at hk)
              have gr3 : Grp (((wc.setCell ⟨gg, 4, none⟩ (.int .i64 ao)).setCell ⟨gg, 5, none⟩ (.int .u64 an)).setCell ⟨gg, 6, none⟩ (.int .i64 ai)) W.heap.size (.slice A groups.length c) groups := (gr2).kept fun k cur hk _ => su3.block k (blk_lt hk) (fun e => by subst e; rw [eb2] at hk; simp at hk)
              have eb3 : (((wc.setCell ⟨gg, 4, none⟩ (.int .i64 ao)).setCell ⟨gg, 5, none⟩ (.int .u64 an)).setCell ⟨gg, 6, none⟩ (.int .i64 ai)).heap[gg]? = some (.cells #[.string contact, .bool kept, .string name, .slice A groups.length c, .int .i64 ao, .int .u64 an, .int .i64 ai, .int .u64 m] 54) := blk_set_same (eb2) 6 _
              have hb3 := blk_set_other (hb2) (a := (⟨gg, 6, none⟩ : Addr)) (.int .i64 ai) nhg
              have su4 : Upd (((wc.setCell ⟨gg, 4, none⟩ (.int .i64 ao)).setCell ⟨gg, 5, none⟩ (.int .u64 an)).setCell ⟨gg, 6, none⟩ (.int .i64 ai)).heap.size (fun k => k = gg) (((wc.setCell ⟨gg, 4, none⟩ (.int .i64 ao)).setCell ⟨gg, 5, none⟩ (.int .u64 an)).setCell ⟨gg, 6, none⟩ (.int .i64 ai)) ((((wc.setCell ⟨gg, 4, none⟩ (.int .i64 ao)).setCell ⟨gg, 5, none⟩ (.int .u64 an)).setCell ⟨gg, 6, none⟩ (.int .i64 ai)).setCell ⟨gg, 7, none⟩ (.int .u64 am)) := Upd.setCell (ks := fun k => k = gg) (Upd.refl _ _ _) (a := (⟨gg, 7, none⟩ : Addr)) (.inl rfl) _
              have hz4 := RoAtK.upd (hz3) su4 (Nat.le_refl _) nrg nmg (fun k cur hk _ e => by subst e; rw [eb3] at hk; simp at hk)
              have gr4 : Grp ((((wc.setCell ⟨gg, 4, none⟩ (.int .i64 ao)).setCell ⟨gg, 5, none⟩ (.int .u64 an)).setCell ⟨gg, 6, none⟩ (.int .i64 ai)).setCell ⟨gg, 7, none⟩ (.int .u64 am)) W.heap.size (.slice A groups.length c) groups := (gr3).kept fun k cur hk _ => su4.block k (blk_lt hk) (fun e => by subst e; rw [eb3] at hk; simp at hk)
              have eb4 : ((((wc.setCell ⟨gg, 4, none⟩ (.int .i64 ao)).setCell ⟨gg, 5, none⟩ (.int .u64 an)).setCell ⟨gg, 6, none⟩ (.int .i64 ai)).setCell ⟨gg, 7, none⟩ (.int .u64 am)).heap[gg]? = some (.cells #[.string contact, .bool kept, .string name, .slice A groups.length c, .int .i64 ao, .int .u64 an, .int .i64 ai, .int .u64 am] 54) := blk_set_same (eb3) 7 _
              have hb4 := blk_set_other (hb3) (a := (⟨gg, 7, none⟩ : Addr)) (.int .u64 am) nhg
              have HS : Upd wc.heap.size (fun k => k = gg) wc ((((wc.setCell ⟨gg, 4, none⟩ (.int .i64 ao)).setCell ⟨gg, 5, none⟩ (.int .u64 an)).setCell ⟨gg, 6, none⟩ (.int .i64 ai)).setCell ⟨gg, 7, none⟩ (.int .u64 am)) := (Upd.setCell (ks := fun k => k = gg) (Upd.setCell (ks := fun k => k = gg) (Upd.setCell (ks := fun k => k = gg) (Upd.setCell (ks := fun k => k = gg) (Upd.refl _ _ _) (a := (⟨gg, 4, none⟩ : Addr)) (.inl rfl) _) (a := (⟨gg, 5, none⟩ : Addr)) (.inl rfl) _) (a := (⟨gg, 6, none⟩ : Addr)) (.inl rfl) _) (a := (⟨gg, 7, none⟩ : Addr)) (.inl rfl) _)
              have HZ := Lib.hid (And.intro hz4 (And.intro eb4 (And.intro gr4 (And.intro hb4 HS))))
              clear HS su1 hz1 gr1 eb1 hb1 su2 hz2 gr2 eb2 hb2 su3 hz3 gr3 eb3 hb3 su4 hz4 gr4 eb4 hb4
              go_wp2_with fail
              generalize hWX : ((((wc.setCell ⟨gg, 4, none⟩ (.int .i64 ao)).setCell ⟨gg, 5, none⟩ (.int .u64 an)).setCell ⟨gg, 6, none⟩ (.int .i64 ai)).setCell ⟨gg, 7, none⟩ (.int .u64 am)) = WX at HZ ⊢
              clear hWX k0 x0 x1 x2 x3 x4 x5 x6 x7 xz0 xz1 xz2 xz3 xz4 xz5 xz6 xz7 h0 h1 h2 h3
              refine (rset_any HZ.out.1 (⟨contact, kept, name, groups, ⟨ao, an, ai, am⟩⟩ : Ent) _ HZ.out.2.2.1.strs HGL.out.1 HGL.out.2.1 HGL.out.2.2.1 (by have := HGL.out.2.2.2; have := HU5.out.size; have := HZ.out.2.2.2.2.size; omega)).mono ?_
              rintro e w6 ⟨rfl, hro6, hu6⟩
              have hfin : HearDone W w6 B rb mb n g (R.set (⟨contact, kept, name, groups, ⟨ao, an, ai, am⟩⟩ : Ent)) t2 false (kept && df) := ⟨hro6, hear_upd HU5.out HZ.out.2.2.2.2 hu6 HGG.out.1, blk_upd HZ.out.2.2.2.1 hu6 (blk_lt HZ.out.2.2.2.1) (by have := HGB.out; rintro (e | e) <;> omega)⟩
              have HF := Lib.hid hfin
              clear hfin hro6 hu6 HZ
              go_wp2_with fail
              rw [HRS.out]
              go_end0
              exact ⟨rfl, HF.out⟩


theorem hear1_any {W : World} {B rb mb n : Nat} {D : DataW Value} {R : RS} (h : RoAt W B rb mb n D R) (hT : Tabs W) (g : Nat) (s : ByteArray) (k nn : Int) (hs : s.size ≤ 9223372036854775807) (hx : HearBox W g rb s k nn 0 false false)
    (hn : n ≤ 1000000) (hB : B ≤ W.heap.size) (hg : rb < g ∧ mb < g) :
    Calls Tryz.prog 70 (hearCaps g) W fun e w' => HearPost W B rb mb n g (R.hear s k nn) e w' := by
  by_cases hE : (localS s).2 = 0
  · exact hear1_go h hT g s k nn hs hx hE hn hB hg _ rfl
  · refine (hear1_name h hT g s k nn hs hx hE).mono fun e w' he => ?_
    rw [RS.hear_name hE]
    exact he

end Go.Proofs.YthbjcihdlhkboaaGreatDoor
