/- What a user does about a contact, as a function of the roster. -/
import Derived.Test.YthbjcihdlhkboaaGreatDoorQ09
import Derived.Test.YthbjcihdlhkboaaGreatDoorQ12
namespace Go.Proofs.YthbjcihdlhkboaaGreatDoor
set_option linter.unusedSimpArgs false
set_option linter.unusedVariables false
open Go.RowKit Go.Maps Go.Shelf Go.Lib

theorem cells4 {w : World} {b : Nat} {x0 x1 x2 x3 : Value} {T : TypeId} (h : w.heap[b]? = some (.cells #[x0, x1, x2, x3] T)) : w.cell? ⟨b, 0, none⟩ = some x0 ∧ w.cell? ⟨b, 1, none⟩ = some x1 ∧ w.cell? ⟨b, 2, none⟩ = some x2 ∧ w.cell? ⟨b, 3, none⟩ = some x3 ∧ w.frozen? ⟨b, 0, none⟩ = false ∧ w.frozen? ⟨b, 1, none⟩ = false ∧ w.frozen? ⟨b, 2, none⟩ = false ∧ w.frozen? ⟨b, 3, none⟩ = false :=
  ⟨blk_cell h 0, blk_cell h 1, blk_cell h 2, blk_cell h 3, blk_frozen h 0, blk_frozen h 1, blk_frozen h 2, blk_frozen h 3⟩
theorem cells8 {w : World} {b : Nat} {x0 x1 x2 x3 x4 x5 x6 x7 : Value} {T : TypeId} (h : w.heap[b]? = some (.cells #[x0, x1, x2, x3, x4, x5, x6, x7] T)) : w.cell? ⟨b, 0, none⟩ = some x0 ∧ w.cell? ⟨b, 1, none⟩ = some x1 ∧ w.cell? ⟨b, 2, none⟩ = some x2 ∧ w.cell? ⟨b, 3, none⟩ = some x3 ∧ w.cell? ⟨b, 4, none⟩ = some x4 ∧ w.cell? ⟨b, 5, none⟩ = some x5 ∧ w.cell? ⟨b, 6, none⟩ = some x6 ∧ w.cell? ⟨b, 7, none⟩ = some x7 ∧ w.frozen? ⟨b, 0, none⟩ = false ∧ w.frozen? ⟨b, 1, none⟩ = false ∧ w.frozen? ⟨b, 2, none⟩ = false ∧ w.frozen? ⟨b, 3, none⟩ = false ∧ w.frozen? ⟨b, 4, none⟩ = false ∧ w.frozen? ⟨b, 5, none⟩ = false ∧ w.frozen? ⟨b, 6, none⟩ = false ∧ w.frozen? ⟨b, 7, none⟩ = false :=
  ⟨blk_cell h 0, blk_cell h 1, blk_cell h 2, blk_cell h 3, blk_cell h 4, blk_cell h 5, blk_cell h 6, blk_cell h 7, blk_frozen h 0, blk_frozen h 1, blk_frozen h 2, blk_frozen h 3, blk_frozen h 4, blk_frozen h 5, blk_frozen h 6, blk_frozen h 7⟩
theorem blk_set4 {w : World} {b : Nat} {x0 x1 x2 x3 : Value} {T : TypeId} (h : w.heap[b]? = some (.cells #[x0, x1, x2, x3] T)) (y0 y1 y2 y3 : Value) :
    ((((w.setCell ⟨b, 0, none⟩ y0).setCell ⟨b, 1, none⟩ y1).setCell ⟨b, 2, none⟩ y2).setCell ⟨b, 3, none⟩ y3).heap[b]? = some (.cells #[y0, y1, y2, y3] T) := by
  have h0 : (w.setCell ⟨b, 0, none⟩ y0).heap[b]? = some (.cells #[y0, x1, x2, x3] T) := blk_set_same h 0 y0
  have h1 : ((w.setCell ⟨b, 0, none⟩ y0).setCell ⟨b, 1, none⟩ y1).heap[b]? = some (.cells #[y0, y1, x2, x3] T) := blk_set_same h0 1 y1
  have h2 : (((w.setCell ⟨b, 0, none⟩ y0).setCell ⟨b, 1, none⟩ y1).setCell ⟨b, 2, none⟩ y2).heap[b]? = some (.cells #[y0, y1, y2, x3] T) := blk_set_same h1 2 y2
  have h3 : ((((w.setCell ⟨b, 0, none⟩ y0).setCell ⟨b, 1, none⟩ y1).setCell ⟨b, 2, none⟩ y2).setCell ⟨b, 3, none⟩ y3).heap[b]? = some (.cells #[y0, y1, y2, y3] T) := blk_set_same h2 3 y3
  exact h3
theorem below_set4 {w0 w : World} {B b : Nat} (h : Below B w0 w) (hB : B ≤ b) (y0 y1 y2 y3 : Value) : Below B w0 ((((w.setCell ⟨b, 0, none⟩ y0).setCell ⟨b, 1, none⟩ y1).setCell ⟨b, 2, none⟩ y2).setCell ⟨b, 3, none⟩ y3) := ((((h.setCell hB y0).setCell hB y1).setCell hB y2).setCell hB y3)
/-- What an act answers, without its error. -/
def actZ (h : Half) (k n : Int) : Half × Int × Int := (actS h k n).getD (⟨0, 0, 0, 0⟩, 0, 0)
theorem actV_form (h : Half) (k n : Int) : ∃ ec, actV (actS h k n) = .tuple #[(actZ h k n).1.val, .int .i64 (actZ h k n).2.1, .int .u64 (actZ h k n).2.2, .int .i64 ec] := by
  unfold actZ
  cases actS h k n with
  | none => exact ⟨1, rfl⟩
  | some x => exact ⟨0, rfl⟩

/-- An act: the new roster, the mail, its number, is an item changed; or the error. -/
def RS.act (R : RS) (s : ByteArray) (k : Int) : Except Int (RS × Int × Int × Bool) :=
  if (localS s).2 = 0 then
    if 11 ≤ k ∧ k ≤ 14 then
      if (actZ (R.entry (localS s).1).half k (R.next + 1)).2.1 = 0 then .ok (R, 0, 0, false)
      else if (k = 11 ∨ k = 12) ∧ (R.entry (localS s).1).kept = false ∧ ¬ (R.kept : Int) < R.items then .error 8
      else .ok ((if k = 11 then { R with next := R.next + 1 } else R).set { R.entry (localS s).1 with kept := (R.entry (localS s).1).kept || (k == 11 || k == 12), half := (actZ (R.entry (localS s).1).half k (R.next + 1)).1 },
        (actZ (R.entry (localS s).1).half k (R.next + 1)).2.1, (actZ (R.entry (localS s).1).half k (R.next + 1)).2.2, (R.entry (localS s).1).kept || (k == 11 || k == 12))
    else .error 1
  else .error (localS s).2

/-- The variables that the act's closure has caught. -/
structure ActBox (W : World) (g rb : Nat) (s : ByteArray) (k m nn : Int) (ch : Bool) : Prop where
  b0 : W.heap[g]? = some (.cells #[.pointer (some ⟨rb, 0, none⟩)] 42)
  b1 : W.heap[g + 1]? = some (.cells #[.string s] 9)
  b2 : W.heap[g + 2]? = some (.cells #[.int .i64 k] 3)
  b3 : W.heap[g + 3]? = some (.cells #[.int .i64 m] 3)
  b4 : W.heap[g + 4]? = some (.cells #[.int .u64 nn] 45)
  b5 : W.heap[g + 5]? = some (.cells #[.bool ch] 4)
abbrev actCaps (g : Nat) : Array Value := #[.pointer (some ⟨g, 0, none⟩), .pointer (some ⟨g + 1, 0, none⟩), .pointer (some ⟨g + 2, 0, none⟩), .pointer (some ⟨g + 3, 0, none⟩), .pointer (some ⟨g + 4, 0, none⟩), .pointer (some ⟨g + 5, 0, none⟩)]
theorem ActBox.below {W W' : World} {g rb : Nat} {s : ByteArray} {k m nn : Int} {ch : Bool} (h : ActBox W g rb s k m nn ch) (hb : Below W.heap.size W W') : ActBox W' g rb s k m nn ch :=
  ⟨blk_below h.b0 hb (blk_lt h.b0), blk_below h.b1 hb (blk_lt h.b1), blk_below h.b2 hb (blk_lt h.b2), blk_below h.b3 hb (blk_lt h.b3), blk_below h.b4 hb (blk_lt h.b4), blk_below h.b5 hb (blk_lt h.b5)⟩

/-- What the act's closure leaves. -/
structure ActDone (W w' : World) (B rb mb n g : Nat) (R : RS) (m nn : Int) (ch : Bool) : Prop where
  ro : ∃ n' D', n' ≤ n + 1 ∧ RoAt w' B rb mb n' D' R
  upd : Upd W.heap.size (fun k => k = rb ∨ k = mb ∨ k = g + 3 ∨ k = g + 4 ∨ k = g + 5) W w'
  b3 : w'.heap[g + 3]? = some (.cells #[.int .i64 m] 3)
  b4 : w'.heap[g + 4]? = some (.cells #[.int .u64 nn] 45)
  b5 : w'.heap[g + 5]? = some (.cells #[.bool ch] 4)

theorem ActBox.upd {W W' : World} {g rb : Nat} {s : ByteArray} {k m nn : Int} {ch : Bool} (h : ActBox W g rb s k m nn ch) {C : Nat} {ks : Nat → Prop} (hu : Upd C ks W W') (hC : W.heap.size ≤ C) (hk : ∀ j, j < 6 → ¬ ks (g + j)) : ActBox W' g rb s k m nn ch :=
  ⟨blk_upd h.b0 hu (by have := blk_lt h.b0; omega) (hk 0 (by omega)), blk_upd h.b1 hu (by have := blk_lt h.b1; omega) (hk 1 (by omega)), blk_upd h.b2 hu (by have := blk_lt h.b2; omega) (hk 2 (by omega)), blk_upd h.b3 hu (by have := blk_lt h.b3; omega) (hk 3 (by omega)), blk_upd h.b4 hu (by have := blk_lt h.b4; omega) (hk 4 (by omega)), blk_upd h.b5 hu (by have := blk_lt h.b5; omega) (hk 5 (by omega))⟩

def ActPost (W : World) (B rb mb n g : Nat) : Except Int (RS × Int × Int × Bool) → Ending → World → Prop
  | .error c, e, w' => e = .panicked [{ v := rfailsV c, recovered := false }] ∧ Below W.heap.size W w'
  | .ok r, e, w' => e = .returned (.tuple #[]) ∧ ActDone W w' B rb mb n g r.1 r.2.1 r.2.2.1 r.2.2.2

theorem RS.act_name {R : RS} {s : ByteArray} {k : Int} (hE : (localS s).2 ≠ 0) : R.act s k = .error (localS s).2 := by
  unfold RS.act; rw [if_neg hE]
theorem RS.act_kind {R : RS} {s : ByteArray} {k : Int} (hE : (localS s).2 = 0) (hk : ¬ (11 ≤ k ∧ k ≤ 14)) : R.act s k = .error 1 := by
  unfold RS.act; rw [if_pos hE, if_neg hk]
theorem RS.act_none {R : RS} {s : ByteArray} {k : Int} {x : ByteArray} {it : Ent} {h2 : Half} {m2 n2 : Int} (hE : (localS s).2 = 0) (hx : (localS s).1 = x) (hit : R.entry x = it) (hk : 11 ≤ k ∧ k ≤ 14)
    (hz : actZ it.half k (R.next + 1) = (h2, m2, n2)) (hm : m2 = 0) : R.act s k = .ok (R, 0, 0, false) := by
  unfold RS.act; rw [if_pos hE, if_pos hk, hx, hit, hz, if_pos hm]
theorem RS.act_full {R : RS} {s : ByteArray} {k : Int} {x : ByteArray} {it : Ent} {h2 : Half} {m2 n2 : Int} (hE : (localS s).2 = 0) (hx : (localS s).1 = x) (hit : R.entry x = it) (hk : 11 ≤ k ∧ k ≤ 14)
    (hz : actZ it.half k (R.next + 1) = (h2, m2, n2)) (hm : m2 ≠ 0) (hk2 : k = 11 ∨ k = 12) (hkept : it.kept = false) (hr : ¬ (R.kept : Int) < R.items) : R.act s k = .error 8 := by
  unfold RS.act; rw [if_pos hE, if_pos hk, hx, hit, hz, if_neg hm, if_pos ⟨hk2, hkept, hr⟩]
theorem RS.act_do {R : RS} {s : ByteArray} {k : Int} {x : ByteArray} {it : Ent} {h2 : Half} {m2 n2 : Int} (hE : (localS s).2 = 0) (hx : (localS s).1 = x) (hit : R.entry x = it) (hk : 11 ≤ k ∧ k ≤ 14)
    (hz : actZ it.half k (R.next + 1) = (h2, m2, n2)) (hm : m2 ≠ 0) (hf : ¬ ((k = 11 ∨ k = 12) ∧ it.kept = false ∧ ¬ (R.kept : Int) < R.items)) :
    R.act s k = .ok ((if k = 11 then { R with next := R.next + 1 } else R).set { it with kept := it.kept || (k == 11 || k == 12), half := h2 }, m2, n2, it.kept || (k == 11 || k == 12)) := by
  unfold RS.act; rw [if_pos hE, if_pos hk, hx, hit, hz, if_neg hm, if_neg hf]

theorem act_upd {W w5 wx w6 : World} {rb mb gg g : Nat} (hb : Below W.heap.size W w5) (hs : Upd w5.heap.size (fun k => k = gg ∨ k = rb) w5 wx) (hu : Upd wx.heap.size (fun k => k = rb ∨ k = mb) wx w6) (hg : W.heap.size ≤ gg) :
    Upd W.heap.size (fun k => k = rb ∨ k = mb ∨ k = g + 3 ∨ k = g + 4 ∨ k = g + 5) W w6 where
  os := hu.os.trans (hs.os.trans hb.os)
  tape := hu.tape.trans (hs.tape.trans hb.tape)
  output := hu.output.trans (hs.output.trans hb.output)
  size := Nat.le_trans hb.size (Nat.le_trans hs.size hu.size)
  block := fun k hk hn => by
    have h1 := hb.size
    have h2 := hs.size
    rw [hu.block k (by omega) (by rintro (e | e); exact hn (.inl e); exact hn (.inr (.inl e)))]
    rw [hs.block k (by omega) (by rintro (e | e); omega; exact hn (.inl e))]
    exact hb.block k hk

theorem act_fin {W w6 : World} {B rb mb n g : Nat} {R : RS} (hro : ∃ n' D', n' ≤ n + 1 ∧ RoAt w6 B rb mb n' D' R)
    (hu : Upd W.heap.size (fun k => k = rb ∨ k = mb ∨ k = g + 3 ∨ k = g + 4 ∨ k = g + 5) W w6) (hg : rb < g ∧ mb < g) {x3 x4 x5 : Value}
    (h3 : w6.heap[g + 3]? = some (.cells #[x3] 3)) (h4 : w6.heap[g + 4]? = some (.cells #[x4] 45)) (h5 : w6.heap[g + 5]? = some (.cells #[x5] 4)) (m nn : Int) (ch : Bool) :
    ActDone W (((w6.setCell ⟨g + 3, 0, none⟩ (.int .i64 m)).setCell ⟨g + 4, 0, none⟩ (.int .u64 nn)).setCell ⟨g + 5, 0, none⟩ (.bool ch)).drew B rb mb n g R m nn ch where
  ro := by
    obtain ⟨n', D', hn, hr⟩ := hro
    have hs : Upd w6.heap.size (fun k => k = g + 3 ∨ k = g + 4 ∨ k = g + 5) w6 (((w6.setCell ⟨g + 3, 0, none⟩ (.int .i64 m)).setCell ⟨g + 4, 0, none⟩ (.int .u64 nn)).setCell ⟨g + 5, 0, none⟩ (.bool ch)).drew :=
      (Upd.setCell (Upd.setCell (Upd.setCell (Upd.refl _ _ _) (a := (⟨g + 3, 0, none⟩ : Addr)) (.inl (.inl rfl)) _) (a := (⟨g + 4, 0, none⟩ : Addr)) (.inl (.inr (.inl rfl))) _) (a := (⟨g + 5, 0, none⟩ : Addr)) (.inl (.inr (.inr rfl))) _).drew
    refine ⟨n', D', hn, RoAtK.upd hr hs (Nat.le_refl _) (by omega) (by omega) ?_⟩
    rintro k cur hk _ (e | e | e)
    · subst e; rw [h3] at hk; simp at hk
    · subst e; rw [h4] at hk; simp at hk
    · subst e; rw [h5] at hk; simp at hk
  upd := (Upd.setCell (Upd.setCell (Upd.setCell hu (a := (⟨g + 3, 0, none⟩ : Addr)) (.inl (.inr (.inr (.inl rfl)))) _) (a := (⟨g + 4, 0, none⟩ : Addr)) (.inl (.inr (.inr (.inr (.inl rfl))))) _) (a := (⟨g + 5, 0, none⟩ : Addr)) (.inl (.inr (.inr (.inr (.inr rfl))))) _).drew
  b3 := blk_drew (blk_set_other (blk_set_other (blk_set_same h3 0 _) _ (by show g + 3 ≠ g + 4; omega)) _ (by show g + 3 ≠ g + 5; omega))
  b4 := blk_drew (blk_set_other (blk_set_same (blk_set_other h4 _ (by show g + 4 ≠ g + 3; omega)) 0 _) _ (by show g + 4 ≠ g + 5; omega))
  b5 := blk_drew (blk_set_same (blk_set_other (blk_set_other h5 _ (by show g + 5 ≠ g + 3; omega)) _ (by show g + 5 ≠ g + 4; omega)) 0 _)

theorem entry_small {w : World} {B rb mb n : Nat} {D : DataW Value} {R : RS} {kc : Int} (h : RoAtK w B rb mb n D R kc) (s : ByteArray) (hs : s.size ≤ maxLen) : (R.entry s).groups.length ≤ 1000000 ∧ (R.entry s).contact.size ≤ maxLen := by
  rcases h.lists s with ⟨_, a⟩ | ⟨g, e, _, a, b, _⟩
  · unfold RS.entry; rw [a]; exact ⟨Nat.zero_le _, hs⟩
  · unfold RS.entry; rw [a]; exact ⟨b.2, by rw [show ((some e).getD (Ent.new s)) = e from rfl, b.1]; exact hs⟩

set_option maxRecDepth 100000 in
set_option maxHeartbeats 4000000 in
/-- The contact's name is none. -/
theorem act1_name {W : World} {B rb mb n : Nat} {D : DataW Value} {R : RS} (h : RoAt W B rb mb n D R) (hT : Tabs W) (g : Nat) (s : ByteArray) (k : Int) (hs : s.size ≤ 9223372036854775807) (hx : ActBox W g rb s k 0 0 false) (hE : (localS s).2 ≠ 0) :
    Calls Tryz.prog 68 (actCaps g) W fun e w' => e = .panicked [{ v := rfailsV (localS s).2, recovered := false }] ∧ Below W.heap.size W w' := by
  have C1 := Lib.hid (fun W' (hW : Below W.heap.size W W') => rlocal_no s W' (hT.later hW) hs hE)
  generalize (localS s).2 = c at *
  have c0 : W.cell? ⟨g, 0, none⟩ = some (.pointer (some ⟨rb, 0, none⟩)) := blk_cell hx.b0 0
  have c1 : W.cell? ⟨g + 1, 0, none⟩ = some (.string s) := blk_cell hx.b1 0
  have l0 := blk_lt hx.b0
  have l1 := blk_lt hx.b1
  clear h hT hx hE
  go_enter Tryz.func68, Tryz.ntmps68
  go_wp2_with fail
  refine wp_region_held_drew (S := fun w' => w'.cell? ⟨g, 0, none⟩ = some (.pointer (some ⟨rb, 0, none⟩)) ∧ w'.cell? ⟨g + 1, 0, none⟩ = some (.string s)) (by kernel_rfl) ?_ (fun hHeld0 => ?_)
  · exact ⟨c0, c1⟩
  refine held_take (v := ?_) 0 rfl rfl (by kernel_rfl) (by kernel_rfl) (by kernel_rfl) (fun _ _ _ h => h) (by rfl) ?_ (by assumption) ?_
  rotate_left
  · intro w hSw; (try dsimp only at hSw); go_simp; (try with_reducible rfl)
  try simp only [Act.put, List.setIfInBounds_toArray, List.set_cons_zero, List.set_cons_succ]
  refine held_take (v := ?_) 1 rfl rfl (by kernel_rfl) (by kernel_rfl) (by kernel_rfl) (fun _ _ _ h => h) (by rfl) ?_ (by assumption) ?_
  rotate_left
  · intro w hSw; (try dsimp only at hSw); go_simp; (try with_reducible rfl)
  try simp only [Act.put, List.setIfInBounds_toArray, List.set_cons_zero, List.set_cons_succ]
  refine wpAnyH_ready (rs := [2, 4]) (by kernel_rfl) (by simp) (AllReadyH.cons rfl (fun K hK => ?_) (AllReadyH.cons rfl (fun K hK => ?_) AllReadyH.nil))
  · rw [if_pos (by rfl)]
    go_simp
    refine (C1.out _ ((Below.refl _ _).drew)).mono ?_
    rintro e w1 ⟨rfl, hb1⟩
    exact ⟨rfl, rfl, Below.trans (B := W.heap.size) ((Below.refl _ _).drew) (hb1.mono (Nat.le_refl _))⟩
  · rw [if_pos (by rfl)]
    go_simp
    refine hK.out _ _ ?_ (fun hHeld1 => ?_)
    · go_keep
    clear hK K hHeld0
    try simp only [Act.put, List.setIfInBounds_toArray, List.set_cons_zero, List.set_cons_succ]
    refine held_step 2 rfl (by kernel_rfl) (by rfl) (fun K hK => ?_)
    go_simp
    refine (C1.out _ (((Below.refl _ _).drew).alloc (Nat.le_refl _) _)).mono ?_
    rintro e w1 ⟨rfl, hb1⟩
    exact ⟨rfl, rfl, Below.trans (B := W.heap.size) (((Below.refl _ _).drew).alloc (Nat.le_refl _) _) (hb1.mono (by simp <;> omega))⟩

-- PRINTED
set_option maxRecDepth 100000 in
set_option maxHeartbeats 16000000 in
theorem act1_go {W : World} {B rb mb n : Nat} {D : DataW Value} {R : RS} (h : RoAt W B rb mb n D R) (hT : Tabs W) (g : Nat) (s : ByteArray) (k : Int) (hs : s.size ≤ 9223372036854775807) (hx : ActBox W g rb s k 0 0 false) (hE : (localS s).2 = 0) (hn : n ≤ 1000000) (hB : B ≤ W.heap.size) (hg : rb < g ∧ mb < g) (hn0 : 0 ≤ R.next) (hn1 : R.next < 18446744073709551615) (RES : Except Int (RS × Int × Int × Bool)) (hres : R.act s k = RES) :
    Calls Tryz.prog 68 (actCaps g) W fun e w' => ActPost W B rb mb n g RES e w' := by
  have hcs := localS_le s
  have C1 := Lib.hid (fun W' (hW : Below W.heap.size W W') => rlocal_ok s W' (hT.later hW) hs hE)
  have C2 := Lib.hid (fun W' (hW : Below W.heap.size W W') => rentry_any (h.below hW) (localS s).1 (by unfold maxLen; omega))
  have hgl := entry_small h (localS s).1 (by unfold maxLen; omega)
  generalize hx1 : (localS s).1 = x at *
  generalize hit : R.entry x = it at *
  obtain ⟨contact, kept, name, groups, ⟨o, hn', i, m⟩⟩ := it
  simp only at C2
  have c0 : W.cell? ⟨g, 0, none⟩ = some (.pointer (some ⟨rb, 0, none⟩)) := blk_cell hx.b0 0
  have c1 : W.cell? ⟨g + 1, 0, none⟩ = some (.string s) := blk_cell hx.b1 0
  have l0 := blk_lt hx.b0
  have l1 := blk_lt hx.b1
  have HX := Lib.hid hx
  have HH := Lib.hid h
  generalize hz : actZ (Half.mk o hn' i m) k (R.next + 1) = az at *
  obtain ⟨⟨ao, an, ai, am⟩, am2, an2⟩ := az
  obtain ⟨ec, hec⟩ := actV_form ⟨o, hn', i, m⟩ k (R.next + 1)
  have HA := Lib.hid (fun W' => act_any ⟨o, hn', i, m⟩ k (R.next + 1) W')
  rw [hec, hz] at HA
  have wn : IntKind.u64.wrap (R.next + 1) = R.next + 1 := IntWalk.u64_in _ (by omega)
  have HGL := Lib.hid (And.intro hgl.1 (And.intro hgl.2 (And.intro hn hB)))
  have HGB := Lib.hid hg
  have HRES := Lib.hid (And.intro hres (And.intro hE (And.intro hx1 (And.intro hit hz))))
  clear hec hgl hn hB hg hres hz
  clear h hT hx hE hx1 hit hcs hs
  go_enter Tryz.func68, Tryz.ntmps68
  go_upto_region 1 with fail
  go_cut [6] (fun s6 wx => ∃ gg A c, s6 = .pointer (some ⟨gg, 0, none⟩) ∧ Below W.heap.size W wx ∧ W.heap.size ≤ gg ∧ wx.heap[gg]? = some (.cells #[.string contact, .bool kept, .string name, .slice A groups.length c, .int .i64 o, .int .u64 hn', .int .i64 i, .int .u64 m] 54) ∧ Grp wx W.heap.size (.slice A groups.length c) groups)
  case first =>
    go_wp2_with fail
    refine wp_region_held_drew (S := fun w' => w'.cell? ⟨g, 0, none⟩ = some (.pointer (some ⟨rb, 0, none⟩)) ∧ w'.cell? ⟨g + 1, 0, none⟩ = some (.string s)) (by kernel_rfl) ?_ (fun hHeld => ?_)
    · exact ⟨c0, c1⟩
    have HB : Below W.heap.size W W.drew := (Below.refl _ _).drew
    refine held_take (v := ?_) 0 rfl rfl (by kernel_rfl) (by kernel_rfl) (by kernel_rfl) (fun _ _ _ h => h) (by rfl) ?_ (by assumption) ?_
    rotate_left
    · intro w hSw; (try dsimp only at hSw); go_simp; (try with_reducible rfl)
    try simp only [Act.put, List.setIfInBounds_toArray, List.set_cons_zero, List.set_cons_succ]
    refine held_take (v := ?_) 1 rfl rfl (by kernel_rfl) (by kernel_rfl) (by kernel_rfl) (fun _ _ _ h => h) (by rfl) ?_ (by assumption) ?_
    rotate_left
    · intro w hSw; (try dsimp only at hSw); go_simp; (try with_reducible rfl)
    try simp only [Act.put, List.setIfInBounds_toArray, List.set_cons_zero, List.set_cons_succ]
    refine wpAnyH_ready (rs := [2, 4]) (by kernel_rfl) (by simp) (AllReadyH.cons rfl (fun K hK => ?_) (AllReadyH.cons rfl (fun K hK => ?_) (AllReadyH.nil)))
    · rw [if_pos (by rfl)]
      go_simp
      refine (C1.out _ HB).mono ?_
      rintro e w1 ⟨rfl, hbs1⟩
      have HB1 : Below W.heap.size W w1 := Below.trans HB (hbs1.mono HB.size)
      try go_wp2_with fail
      have HB := HB1
      refine hK.out _ _ ⟨(HB.cell (p := ⟨g, 0, none⟩) l0).trans c0, (HB.cell (p := ⟨g + 1, 0, none⟩) l1).trans c1⟩ (fun hHeld1 => ?_)
      clear hK K
      try simp only [Act.put, List.setIfInBounds_toArray, List.set_cons_zero, List.set_cons_succ]
      have hHeld := hHeld1
      refine wpAnyH_ready (rs := [3, 4]) (by kernel_rfl) (by simp) (AllReadyH.cons rfl (fun K hK => ?_) (AllReadyH.cons rfl (fun K hK => ?_) (AllReadyH.nil)))
      · rw [if_pos (by rfl)]
        go_simp
        refine (C2.out _ HB).mono ?_
        rintro e w2 ⟨⟨A, c, rfl, hgr⟩, hbs2⟩
        have HB2 : Below W.heap.size W w2 := Below.trans HB (hbs2.mono HB.size)
        have hgr : Grp w2 W.heap.size (.slice A groups.length c) groups := hgr.lower HB.size
        try go_wp2_with fail
        have HB := HB2
        refine hK.out _ _ ⟨(HB.cell (p := ⟨g, 0, none⟩) l0).trans c0, (HB.cell (p := ⟨g + 1, 0, none⟩) l1).trans c1⟩ (fun hHeld2 => ?_)
        clear hK K
        try simp only [Act.put, List.setIfInBounds_toArray, List.set_cons_zero, List.set_cons_succ]
        have hHeld := hHeld2
        refine held_step 4 rfl (by kernel_rfl) (by rfl) (fun K hK => ?_)
        go_simp
        have HBp4 := HB
        have BX4 : ((w2).alloc (.cells #[.string ⟨#[]⟩, .bool false, .string ⟨#[]⟩, .slice none 0 0, .int .i64 0, .int .u64 0, .int .i64 0, .int .u64 0] 54)).heap[w2.heap.size]? = some (.cells #[.string ⟨#[]⟩, .bool false, .string ⟨#[]⟩, .slice none 0 0, .int .i64 0, .int .u64 0, .int .i64 0, .int .u64 0] 54) := blk_new (w2) (.cells #[.string ⟨#[]⟩, .bool false, .string ⟨#[]⟩, .slice none 0 0, .int .i64 0, .int .u64 0, .int .i64 0, .int .u64 0] 54)
        have HG4 : W.heap.size ≤ w2.heap.size := HB.size
        have HBa3 := Below.alloc HB HB.size (.cells #[.string ⟨#[]⟩, .bool false, .string ⟨#[]⟩, .slice none 0 0, .int .i64 0, .int .u64 0, .int .i64 0, .int .u64 0] 54)
        have HB := HBa3
        refine hK.out _ _ ⟨(HB.cell (p := ⟨g, 0, none⟩) l0).trans c0, (HB.cell (p := ⟨g + 1, 0, none⟩) l1).trans c1⟩ (fun hHeld3 => ?_)
        clear hK K
        try simp only [Act.put, List.setIfInBounds_toArray, List.set_cons_zero, List.set_cons_succ]
        have hHeld := hHeld3
        refine held_step 5 rfl (by kernel_rfl) (by rfl) (fun K hK => ?_)
        go_simp
        have BX4 : ((w2).alloc (.cells #[.string contact, .bool kept, .string name, .slice A groups.length c, .int .i64 o, .int .u64 hn', .int .i64 i, .int .u64 m] 54)).heap[w2.heap.size]? = some (.cells #[.string contact, .bool kept, .string name, .slice A groups.length c, .int .i64 o, .int .u64 hn', .int .i64 i, .int .u64 m] 54) := blk_new (w2) (.cells #[.string contact, .bool kept, .string name, .slice A groups.length c, .int .i64 o, .int .u64 hn', .int .i64 i, .int .u64 m] 54)
        have HBe : Below W.heap.size W ((w2).alloc (.cells #[.string contact, .bool kept, .string name, .slice A groups.length c, .int .i64 o, .int .u64 hn', .int .i64 i, .int .u64 m] 54)) := Below.alloc HBp4 HBp4.size _
        have hgr : Grp ((w2).alloc (.cells #[.string contact, .bool kept, .string name, .slice A groups.length c, .int .i64 o, .int .u64 hn', .int .i64 i, .int .u64 m] 54)) W.heap.size (.slice A groups.length c) groups := hgr.kept fun k cur hk _ => Below.heap_alloc _ _ k (blk_lt hk)
        have HB := HBe
        refine hK.out _ _ ⟨(HB.cell (p := ⟨g, 0, none⟩) l0).trans c0, (HB.cell (p := ⟨g + 1, 0, none⟩) l1).trans c1⟩ (fun hHeld4 => ?_)
        clear hK K
        try simp only [Act.put, List.setIfInBounds_toArray, List.set_cons_zero, List.set_cons_succ]
        have hHeld := hHeld4
        refine wpAnyH_done (by kernel_rfl) ?_ _
        clear hHeld
        go_wp2_with fail
        go_meet
        exact ⟨_, A, c, rfl, HB, HG4, BX4, hgr⟩
      · rw [if_pos (by rfl)]
        go_simp
        have HBp4 := HB
        have BX4 : ((w1).alloc (.cells #[.string ⟨#[]⟩, .bool false, .string ⟨#[]⟩, .slice none 0 0, .int .i64 0, .int .u64 0, .int .i64 0, .int .u64 0] 54)).heap[w1.heap.size]? = some (.cells #[.string ⟨#[]⟩, .bool false, .string ⟨#[]⟩, .slice none 0 0, .int .i64 0, .int .u64 0, .int .i64 0, .int .u64 0] 54) := blk_new (w1) (.cells #[.string ⟨#[]⟩, .bool false, .string ⟨#[]⟩, .slice none 0 0, .int .i64 0, .int .u64 0, .int .i64 0, .int .u64 0] 54)
        have HG4 : W.heap.size ≤ w1.heap.size := HB.size
        have HBa2 := Below.alloc HB HB.size (.cells #[.string ⟨#[]⟩, .bool false, .string ⟨#[]⟩, .slice none 0 0, .int .i64 0, .int .u64 0, .int .i64 0, .int .u64 0] 54)
        have HB := HBa2
        refine hK.out _ _ ⟨(HB.cell (p := ⟨g, 0, none⟩) l0).trans c0, (HB.cell (p := ⟨g + 1, 0, none⟩) l1).trans c1⟩ (fun hHeld2 => ?_)
        clear hK K
        try simp only [Act.put, List.setIfInBounds_toArray, List.set_cons_zero, List.set_cons_succ]
        have hHeld := hHeld2
        refine held_step 3 rfl (by kernel_rfl) (by rfl) (fun K hK => ?_)
        go_simp
        refine (C2.out _ HB).mono ?_
        rintro e w3 ⟨⟨A, c, rfl, hgr⟩, hbs3⟩
        have HB3 : Below W.heap.size W w3 := Below.trans HB (hbs3.mono HB.size)
        have BX4 := blk_below BX4 hbs3 (blk_lt BX4)
        have hgr : Grp w3 W.heap.size (.slice A groups.length c) groups := hgr.lower HB.size
        try go_wp2_with fail
        have HB := HB3
        refine hK.out _ _ ⟨(HB.cell (p := ⟨g, 0, none⟩) l0).trans c0, (HB.cell (p := ⟨g + 1, 0, none⟩) l1).trans c1⟩ (fun hHeld3 => ?_)
        clear hK K
        try simp only [Act.put, List.setIfInBounds_toArray, List.set_cons_zero, List.set_cons_succ]
        have hHeld := hHeld3
        refine held_step 5 rfl (by kernel_rfl) (by rfl) (fun K hK => ?_)
        obtain ⟨q0, q1, q2, q3, q4, q5, q6, q7, qz0, qz1, qz2, qz3, qz4, qz5, qz6, qz7⟩ := cells8 BX4
        go_simp
        have BXe := blk_set8 BX4 (.string contact) (.bool kept) (.string name) (.slice A groups.length c) (.int .i64 o) (.int .u64 hn') (.int .i64 i) (.int .u64 m)
        have HBe := below_set8 HB (b := w1.heap.size) HG4 (.string contact) (.bool kept) (.string name) (.slice A groups.length c) (.int .i64 o) (.int .u64 hn') (.int .i64 i) (.int .u64 m)
        have BUe := upd_set8 (w0 := w3) (B := (w3).heap.size) (ks := fun k => k = w1.heap.size) (b := w1.heap.size) (w := w3) (Upd.refl _ _ _) (.inl rfl) (.string contact) (.bool kept) (.string name) (.slice A groups.length c) (.int .i64 o) (.int .u64 hn') (.int .i64 i) (.int .u64 m)
        have hgr : Grp ((((((((w3.setCell ⟨w1.heap.size, 0, none⟩ (.string contact)).setCell ⟨w1.heap.size, 1, none⟩ (.bool kept)).setCell ⟨w1.heap.size, 2, none⟩ (.string name)).setCell ⟨w1.heap.size, 3, none⟩ (.slice A groups.length c)).setCell ⟨w1.heap.size, 4, none⟩ (.int .i64 o)).setCell ⟨w1.heap.size, 5, none⟩ (.int .u64 hn')).setCell ⟨w1.heap.size, 6, none⟩ (.int .i64 i)).setCell ⟨w1.heap.size, 7, none⟩ (.int .u64 m)) W.heap.size (.slice A groups.length c) groups := hgr.kept fun k cur hk _ => BUe.block k (blk_lt hk) (by rintro rfl; rw [BX4] at hk; simp at hk)
        have HB := HBe
        have BX4 := BXe
        clear q0 qz0 q1 qz1 q2 qz2 q3 qz3 q4 qz4 q5 qz5 q6 qz6 q7 qz7
        refine hK.out _ _ ⟨(HB.cell (p := ⟨g, 0, none⟩) l0).trans c0, (HB.cell (p := ⟨g + 1, 0, none⟩) l1).trans c1⟩ (fun hHeld4 => ?_)
        clear hK K
        try simp only [Act.put, List.setIfInBounds_toArray, List.set_cons_zero, List.set_cons_succ]
        have hHeld := hHeld4
        refine wpAnyH_done (by kernel_rfl) ?_ _
        clear hHeld
        go_wp2_with fail
        go_meet
        exact ⟨_, A, c, rfl, HB, HG4, BX4, hgr⟩
    · rw [if_pos (by rfl)]
      go_simp
      have HBp4 := HB
      have BX4 : ((W.drew).alloc (.cells #[.string ⟨#[]⟩, .bool false, .string ⟨#[]⟩, .slice none 0 0, .int .i64 0, .int .u64 0, .int .i64 0, .int .u64 0] 54)).heap[W.heap.size]? = some (.cells #[.string ⟨#[]⟩, .bool false, .string ⟨#[]⟩, .slice none 0 0, .int .i64 0, .int .u64 0, .int .i64 0, .int .u64 0] 54) := blk_new (W.drew) (.cells #[.string ⟨#[]⟩, .bool false, .string ⟨#[]⟩, .slice none 0 0, .int .i64 0, .int .u64 0, .int .i64 0, .int .u64 0] 54)
      have HG4 : W.heap.size ≤ W.heap.size := HB.size
      have HBa1 := Below.alloc HB HB.size (.cells #[.string ⟨#[]⟩, .bool false, .string ⟨#[]⟩, .slice none 0 0, .int .i64 0, .int .u64 0, .int .i64 0, .int .u64 0] 54)
      have HB := HBa1
      refine hK.out _ _ ⟨(HB.cell (p := ⟨g, 0, none⟩) l0).trans c0, (HB.cell (p := ⟨g + 1, 0, none⟩) l1).trans c1⟩ (fun hHeld1 => ?_)
      clear hK K
      try simp only [Act.put, List.setIfInBounds_toArray, List.set_cons_zero, List.set_cons_succ]
      have hHeld := hHeld1
      refine held_step 2 rfl (by kernel_rfl) (by rfl) (fun K hK => ?_)
      go_simp
      refine (C1.out _ HB).mono ?_
      rintro e w2 ⟨rfl, hbs2⟩
      have HB2 : Below W.heap.size W w2 := Below.trans HB (hbs2.mono HB.size)
      have BX4 := blk_below BX4 hbs2 (blk_lt BX4)
      try go_wp2_with fail
      have HB := HB2
      refine hK.out _ _ ⟨(HB.cell (p := ⟨g, 0, none⟩) l0).trans c0, (HB.cell (p := ⟨g + 1, 0, none⟩) l1).trans c1⟩ (fun hHeld2 => ?_)
      clear hK K
      try simp only [Act.put, List.setIfInBounds_toArray, List.set_cons_zero, List.set_cons_succ]
      have hHeld := hHeld2
      refine held_step 3 rfl (by kernel_rfl) (by rfl) (fun K hK => ?_)
      go_simp
      refine (C2.out _ HB).mono ?_
      rintro e w3 ⟨⟨A, c, rfl, hgr⟩, hbs3⟩
      have HB3 : Below W.heap.size W w3 := Below.trans HB (hbs3.mono HB.size)
      have BX4 := blk_below BX4 hbs3 (blk_lt BX4)
      have hgr : Grp w3 W.heap.size (.slice A groups.length c) groups := hgr.lower HB.size
      try go_wp2_with fail
      have HB := HB3
      refine hK.out _ _ ⟨(HB.cell (p := ⟨g, 0, none⟩) l0).trans c0, (HB.cell (p := ⟨g + 1, 0, none⟩) l1).trans c1⟩ (fun hHeld3 => ?_)
      clear hK K
      try simp only [Act.put, List.setIfInBounds_toArray, List.set_cons_zero, List.set_cons_succ]
      have hHeld := hHeld3
      refine held_step 5 rfl (by kernel_rfl) (by rfl) (fun K hK => ?_)
      obtain ⟨q0, q1, q2, q3, q4, q5, q6, q7, qz0, qz1, qz2, qz3, qz4, qz5, qz6, qz7⟩ := cells8 BX4
      go_simp
      have BXe := blk_set8 BX4 (.string contact) (.bool kept) (.string name) (.slice A groups.length c) (.int .i64 o) (.int .u64 hn') (.int .i64 i) (.int .u64 m)
      have HBe := below_set8 HB (b := W.heap.size) HG4 (.string contact) (.bool kept) (.string name) (.slice A groups.length c) (.int .i64 o) (.int .u64 hn') (.int .i64 i) (.int .u64 m)
      have BUe := upd_set8 (w0 := w3) (B := (w3).heap.size) (ks := fun k => k = W.heap.size) (b := W.heap.size) (w := w3) (Upd.refl _ _ _) (.inl rfl) (.string contact) (.bool kept) (.string name) (.slice A groups.length c) (.int .i64 o) (.int .u64 hn') (.int .i64 i) (.int .u64 m)
      have hgr : Grp ((((((((w3.setCell ⟨W.heap.size, 0, none⟩ (.string contact)).setCell ⟨W.heap.size, 1, none⟩ (.bool kept)).setCell ⟨W.heap.size, 2, none⟩ (.string name)).setCell ⟨W.heap.size, 3, none⟩ (.slice A groups.length c)).setCell ⟨W.heap.size, 4, none⟩ (.int .i64 o)).setCell ⟨W.heap.size, 5, none⟩ (.int .u64 hn')).setCell ⟨W.heap.size, 6, none⟩ (.int .i64 i)).setCell ⟨W.heap.size, 7, none⟩ (.int .u64 m)) W.heap.size (.slice A groups.length c) groups := hgr.kept fun k cur hk _ => BUe.block k (blk_lt hk) (by rintro rfl; rw [BX4] at hk; simp at hk)
      have HB := HBe
      have BX4 := BXe
      clear q0 qz0 q1 qz1 q2 qz2 q3 qz3 q4 qz4 q5 qz5 q6 qz6 q7 qz7
      refine hK.out _ _ ⟨(HB.cell (p := ⟨g, 0, none⟩) l0).trans c0, (HB.cell (p := ⟨g + 1, 0, none⟩) l1).trans c1⟩ (fun hHeld4 => ?_)
      clear hK K
      try simp only [Act.put, List.setIfInBounds_toArray, List.set_cons_zero, List.set_cons_succ]
      have hHeld := hHeld4
      refine wpAnyH_done (by kernel_rfl) ?_ _
      clear hHeld
      go_wp2_with fail
      go_meet
      exact ⟨_, A, c, rfl, HB, HG4, BX4, hgr⟩
  case rest =>
    obtain ⟨gg, A, c, rfl, hbc, hgg, hbx, hgr⟩ := hcut
    go_step
    by_cases hkd : 11 ≤ k ∧ k ≤ 14
    case neg =>
      as_aux_lemma =>
      have hres : RES = .error 1 := HRES.out.1.symm.trans (RS.act_kind HRES.out.2.1 hkd)
      have HRS := Lib.hid hres
      have BOX := Lib.hid (HX.out.below hbc)
      have HBC := Lib.hid hbc
      have k2 : wc.cell? ⟨g + 2, 0, none⟩ = some (.int .i64 k) := blk_cell BOX.out.b2 0
      clear hbc hbx hgr C1 C2 c0 c1 hres HRES
      by_cases h11 : 11 ≤ k
      · have d1 : decide (11 ≤ k) = true := by simpa using h11
        have d2 : decide (k ≤ 14) = false := by simp; omega
        clear hkd h11
        go_wp2_with fail
        refine (rmust_no 1 (by decide) _).mono ?_
        rintro e w' ⟨rfl, rfl⟩
        go_wp2_with fail
        rw [HRS.out]
        exact ⟨rfl, rfl, HBC.out⟩
      · have d1 : decide (11 ≤ k) = false := by simp; omega
        clear hkd h11
        go_wp2_with fail
        refine (rmust_no 1 (by decide) _).mono ?_
        rintro e w' ⟨rfl, rfl⟩
        go_wp2_with fail
        rw [HRS.out]
        exact ⟨rfl, rfl, HBC.out⟩
    have d1 : decide (11 ≤ k) = true := by simpa using hkd.1
    have d2 : decide (k ≤ 14) = true := by simpa using hkd.2
    have HKD := Lib.hid hkd
    clear hkd
    have BOX := Lib.hid (HX.out.below hbc)
    have RO := Lib.hid (HH.out.below hbc)
    have HIT2 := Lib.hid (And.intro hbc (And.intro hgg (And.intro hbx hgr)))
    have k2 : wc.cell? ⟨g + 2, 0, none⟩ = some (.int .i64 k) := blk_cell BOX.out.b2 0
    have k0 : wc.cell? ⟨g, 0, none⟩ = some (.pointer (some ⟨rb, 0, none⟩)) := blk_cell BOX.out.b0 0
    have r3 : wc.cell? ⟨rb, 3, none⟩ = some (.int .u64 R.next) := blk_cell RO.out.cells 3
    have e4 : wc.cell? ⟨gg, 4, none⟩ = some (.int .i64 o) := blk_cell hbx 4
    have e5 : wc.cell? ⟨gg, 5, none⟩ = some (.int .u64 hn') := blk_cell hbx 5
    have e6 : wc.cell? ⟨gg, 6, none⟩ = some (.int .i64 i) := blk_cell hbx 6
    have e7 : wc.cell? ⟨gg, 7, none⟩ = some (.int .u64 m) := blk_cell hbx 7
    have lt1 := blk_lt BOX.out.b0
    have lt2 := blk_lt BOX.out.b2
    have lt3 := RO.out.lt.1
    have lt4 := blk_lt hbx
    clear hbc hbx hgr C1 C2 c0 c1
    go_wp2_with fail
    refine (rmust_yes 1 _).mono ?_
    rintro e w' ⟨rfl, hw⟩
    obtain rfl := hw.symm
    go_upto_region 3 with fail
    go_cut [7, 8, 9, 10] (fun s7 s8 s9 s10 wx => ∃ g2, s7 = .pointer (some ⟨g2, 0, none⟩) ∧ s8 = .int .i64 am2 ∧ s9 = .int .u64 an2 ∧ Below wc.heap.size wc wx ∧ wc.heap.size ≤ g2 ∧ wx.heap[g2]? = some (.cells #[.int .i64 ao, .int .u64 an, .int .i64 ai, .int .u64 am] 52))
    case first =>
      go_wp2_with fail
      refine wp_region_held_drew (S := fun w' => w'.cell? ⟨gg, 4, none⟩ = some (.int .i64 o) ∧ w'.cell? ⟨gg, 5, none⟩ = some (.int .u64 hn') ∧ w'.cell? ⟨gg, 6, none⟩ = some (.int .i64 i) ∧ w'.cell? ⟨gg, 7, none⟩ = some (.int .u64 m) ∧ w'.cell? ⟨g + 2, 0, none⟩ = some (.int .i64 k) ∧ w'.cell? ⟨g, 0, none⟩ = some (.pointer (some ⟨rb, 0, none⟩)) ∧ w'.cell? ⟨rb, 3, none⟩ = some (.int .u64 R.next)) (by kernel_rfl) ?_ (fun hHeld => ?_)
      · exact ⟨e4, e5, e6, e7, k2, k0, r3⟩
      have HB : Below wc.heap.size wc wc.drew := (Below.refl _ _).drew
      refine held_take (v := ?_) 0 rfl rfl (by kernel_rfl) (by kernel_rfl) (by kernel_rfl) (fun _ _ _ h => h) (by rfl) ?_ (by assumption) ?_
      rotate_left
      · intro w hSw; (try dsimp only at hSw); go_simp; (try with_reducible rfl)
      try simp only [Act.put, List.setIfInBounds_toArray, List.set_cons_zero, List.set_cons_succ]
      refine held_take (v := ?_) 1 rfl rfl (by kernel_rfl) (by kernel_rfl) (by kernel_rfl) (fun _ _ _ h => h) (by rfl) ?_ (by assumption) ?_
      rotate_left
      · intro w hSw; (try dsimp only at hSw); go_simp; (try with_reducible rfl)
      try simp only [Act.put, List.setIfInBounds_toArray, List.set_cons_zero, List.set_cons_succ]
      refine held_take (v := ?_) 2 rfl rfl (by kernel_rfl) (by kernel_rfl) (by kernel_rfl) (fun _ _ _ h => h) (by rfl) ?_ (by assumption) ?_
      rotate_left
      · intro w hSw; (try dsimp only at hSw); go_simp; (try with_reducible rfl)
      try simp only [Act.put, List.setIfInBounds_toArray, List.set_cons_zero, List.set_cons_succ]
      refine held_take (v := ?_) 3 rfl rfl (by kernel_rfl) (by kernel_rfl) (by kernel_rfl) (fun _ _ _ h => h) (by rfl) ?_ (by assumption) ?_
      rotate_left
      · intro w hSw; (try dsimp only at hSw); go_simp; (try with_reducible rfl)
      try simp only [Act.put, List.setIfInBounds_toArray, List.set_cons_zero, List.set_cons_succ]
      refine held_take (v := ?_) 4 rfl rfl (by kernel_rfl) (by kernel_rfl) (by kernel_rfl) (fun _ _ _ h => h) (by rfl) ?_ (by assumption) ?_
      rotate_left
      · intro w hSw; (try dsimp only at hSw); go_simp; (try with_reducible rfl)
      try simp only [Act.put, List.setIfInBounds_toArray, List.set_cons_zero, List.set_cons_succ]
      refine held_take (v := ?_) 5 rfl rfl (by kernel_rfl) (by kernel_rfl) (by kernel_rfl) (fun _ _ _ h => h) (by rfl) ?_ (by assumption) ?_
      rotate_left
      · intro w hSw; (try dsimp only at hSw); go_simp; (try with_reducible rfl)
      try simp only [Act.put, List.setIfInBounds_toArray, List.set_cons_zero, List.set_cons_succ]
      refine held_take (v := ?_) 6 rfl rfl (by kernel_rfl) (by kernel_rfl) (by kernel_rfl) (fun _ _ _ h => h) (by rfl) ?_ (by assumption) ?_
      rotate_left
      · intro w hSw; (try dsimp only at hSw); go_simp; (try with_reducible rfl)
      try simp only [Act.put, List.setIfInBounds_toArray, List.set_cons_zero, List.set_cons_succ]
      refine held_take (v := ?_) 7 rfl rfl (by kernel_rfl) (by kernel_rfl) (by kernel_rfl) (fun _ _ _ h => h) (by rfl) ?_ (by assumption) ?_
      rotate_left
      · intro w hSw; (try dsimp only at hSw); go_simp; (try with_reducible rfl)
      try simp only [Act.put, List.setIfInBounds_toArray, List.set_cons_zero, List.set_cons_succ]
      refine wpAnyH_ready (rs := [8, 14]) (by kernel_rfl) (by simp) (AllReadyH.cons rfl (fun K hK => ?_) (AllReadyH.cons rfl (fun K hK => ?_) (AllReadyH.nil)))
      · rw [if_pos (by rfl)]
        go_simp
        refine (HA.out _).mono ?_
        rintro e w1 ⟨rfl, hbs1⟩
        have HB1 : Below wc.heap.size wc w1 := Below.trans HB (hbs1.mono HB.size)
        try go_wp2_with fail
        have HB := HB1
        refine hK.out _ _ ⟨(HB.cell (p := ⟨gg, 4, none⟩) lt4).trans e4, (HB.cell (p := ⟨gg, 5, none⟩) lt4).trans e5, (HB.cell (p := ⟨gg, 6, none⟩) lt4).trans e6, (HB.cell (p := ⟨gg, 7, none⟩) lt4).trans e7, (HB.cell (p := ⟨g + 2, 0, none⟩) lt2).trans k2, (HB.cell (p := ⟨g, 0, none⟩) lt1).trans k0, (HB.cell (p := ⟨rb, 3, none⟩) lt3).trans r3⟩ (fun hHeld1 => ?_)
        clear hK K
        try simp only [Act.put, List.setIfInBounds_toArray, List.set_cons_zero, List.set_cons_succ]
        have hHeld := hHeld1
        refine held_take (v := ?_) 9 rfl rfl (by kernel_rfl) (by kernel_rfl) (by kernel_rfl) (fun _ _ _ h => h) (by rfl) ?_ (by assumption) ?_
        rotate_left
        · intro w hSw; (try dsimp only at hSw); go_simp; (try with_reducible rfl)
        try simp only [Act.put, List.setIfInBounds_toArray, List.set_cons_zero, List.set_cons_succ]
        refine held_take (v := ?_) 10 rfl rfl (by kernel_rfl) (by kernel_rfl) (by kernel_rfl) (fun _ _ _ h => h) (by rfl) ?_ (by assumption) ?_
        rotate_left
        · intro w hSw; (try dsimp only at hSw); go_simp; (try with_reducible rfl)
        try simp only [Act.put, List.setIfInBounds_toArray, List.set_cons_zero, List.set_cons_succ]
        refine held_take (v := ?_) 11 rfl rfl (by kernel_rfl) (by kernel_rfl) (by kernel_rfl) (fun _ _ _ h => h) (by rfl) ?_ (by assumption) ?_
        rotate_left
        · intro w hSw; (try dsimp only at hSw); go_simp; (try with_reducible rfl)
        try simp only [Act.put, List.setIfInBounds_toArray, List.set_cons_zero, List.set_cons_succ]
        refine held_take (v := ?_) 12 rfl rfl (by kernel_rfl) (by kernel_rfl) (by kernel_rfl) (fun _ _ _ h => h) (by rfl) ?_ (by assumption) ?_
        rotate_left
        · intro w hSw; (try dsimp only at hSw); go_simp; (try with_reducible rfl)
        try simp only [Act.put, List.setIfInBounds_toArray, List.set_cons_zero, List.set_cons_succ]
        refine held_take (v := ?_) 13 rfl rfl (by kernel_rfl) (by kernel_rfl) (by kernel_rfl) (fun _ _ _ h => h) (by rfl) ?_ (by assumption) ?_
        rotate_left
        · intro w hSw; (try dsimp only at hSw); go_simp; (try with_reducible rfl)
        try simp only [Act.put, List.setIfInBounds_toArray, List.set_cons_zero, List.set_cons_succ]
        refine held_step 14 rfl (by kernel_rfl) (by rfl) (fun K hK => ?_)
        go_simp
        have HBp14 := HB
        have BX14 : ((w1).alloc (.cells #[.int .i64 0, .int .u64 0, .int .i64 0, .int .u64 0] 52)).heap[w1.heap.size]? = some (.cells #[.int .i64 0, .int .u64 0, .int .i64 0, .int .u64 0] 52) := blk_new (w1) (.cells #[.int .i64 0, .int .u64 0, .int .i64 0, .int .u64 0] 52)
        have HG14 : wc.heap.size ≤ w1.heap.size := HB.size
        have HBa2 := Below.alloc HB HB.size (.cells #[.int .i64 0, .int .u64 0, .int .i64 0, .int .u64 0] 52)
        have HB := HBa2
        refine hK.out _ _ ⟨(HB.cell (p := ⟨gg, 4, none⟩) lt4).trans e4, (HB.cell (p := ⟨gg, 5, none⟩) lt4).trans e5, (HB.cell (p := ⟨gg, 6, none⟩) lt4).trans e6, (HB.cell (p := ⟨gg, 7, none⟩) lt4).trans e7, (HB.cell (p := ⟨g + 2, 0, none⟩) lt2).trans k2, (HB.cell (p := ⟨g, 0, none⟩) lt1).trans k0, (HB.cell (p := ⟨rb, 3, none⟩) lt3).trans r3⟩ (fun hHeld2 => ?_)
        clear hK K
        try simp only [Act.put, List.setIfInBounds_toArray, List.set_cons_zero, List.set_cons_succ]
        have hHeld := hHeld2
        refine held_step 15 rfl (by kernel_rfl) (by rfl) (fun K hK => ?_)
        go_simp
        have BX14 : ((w1).alloc (.cells #[.int .i64 ao, .int .u64 an, .int .i64 ai, .int .u64 am] 52)).heap[w1.heap.size]? = some (.cells #[.int .i64 ao, .int .u64 an, .int .i64 ai, .int .u64 am] 52) := blk_new (w1) (.cells #[.int .i64 ao, .int .u64 an, .int .i64 ai, .int .u64 am] 52)
        have HBe : Below wc.heap.size wc ((w1).alloc (.cells #[.int .i64 ao, .int .u64 an, .int .i64 ai, .int .u64 am] 52)) := Below.alloc HBp14 HBp14.size _
        have HB := HBe
        refine hK.out _ _ ⟨(HB.cell (p := ⟨gg, 4, none⟩) lt4).trans e4, (HB.cell (p := ⟨gg, 5, none⟩) lt4).trans e5, (HB.cell (p := ⟨gg, 6, none⟩) lt4).trans e6, (HB.cell (p := ⟨gg, 7, none⟩) lt4).trans e7, (HB.cell (p := ⟨g + 2, 0, none⟩) lt2).trans k2, (HB.cell (p := ⟨g, 0, none⟩) lt1).trans k0, (HB.cell (p := ⟨rb, 3, none⟩) lt3).trans r3⟩ (fun hHeld3 => ?_)
        clear hK K
        try simp only [Act.put, List.setIfInBounds_toArray, List.set_cons_zero, List.set_cons_succ]
        have hHeld := hHeld3
        refine held_take (v := ?_) 16 rfl rfl (by kernel_rfl) (by kernel_rfl) (by kernel_rfl) (fun _ _ _ h => h) (by rfl) ?_ (by assumption) ?_
        rotate_left
        · intro w hSw; (try dsimp only at hSw); go_simp; (try with_reducible rfl)
        try simp only [Act.put, List.setIfInBounds_toArray, List.set_cons_zero, List.set_cons_succ]
        refine held_take (v := ?_) 17 rfl rfl (by kernel_rfl) (by kernel_rfl) (by kernel_rfl) (fun _ _ _ h => h) (by rfl) ?_ (by assumption) ?_
        rotate_left
        · intro w hSw; (try dsimp only at hSw); go_simp; (try with_reducible rfl)
        try simp only [Act.put, List.setIfInBounds_toArray, List.set_cons_zero, List.set_cons_succ]
        refine held_take (v := ?_) 18 rfl rfl (by kernel_rfl) (by kernel_rfl) (by kernel_rfl) (fun _ _ _ h => h) (by rfl) ?_ (by assumption) ?_
        rotate_left
        · intro w hSw; (try dsimp only at hSw); go_simp; (try with_reducible rfl)
        try simp only [Act.put, List.setIfInBounds_toArray, List.set_cons_zero, List.set_cons_succ]
        refine wpAnyH_done (by kernel_rfl) ?_ _
        clear hHeld
        go_wp2_with fail
        go_meet
        exact ⟨_, rfl, rfl, rfl, HB, HG14, BX14⟩
      · rw [if_pos (by rfl)]
        go_simp
        have HBp14 := HB
        have BX14 : ((wc.drew).alloc (.cells #[.int .i64 0, .int .u64 0, .int .i64 0, .int .u64 0] 52)).heap[wc.heap.size]? = some (.cells #[.int .i64 0, .int .u64 0, .int .i64 0, .int .u64 0] 52) := blk_new (wc.drew) (.cells #[.int .i64 0, .int .u64 0, .int .i64 0, .int .u64 0] 52)
        have HG14 : wc.heap.size ≤ wc.heap.size := HB.size
        have HBa1 := Below.alloc HB HB.size (.cells #[.int .i64 0, .int .u64 0, .int .i64 0, .int .u64 0] 52)
        have HB := HBa1
        refine hK.out _ _ ⟨(HB.cell (p := ⟨gg, 4, none⟩) lt4).trans e4, (HB.cell (p := ⟨gg, 5, none⟩) lt4).trans e5, (HB.cell (p := ⟨gg, 6, none⟩) lt4).trans e6, (HB.cell (p := ⟨gg, 7, none⟩) lt4).trans e7, (HB.cell (p := ⟨g + 2, 0, none⟩) lt2).trans k2, (HB.cell (p := ⟨g, 0, none⟩) lt1).trans k0, (HB.cell (p := ⟨rb, 3, none⟩) lt3).trans r3⟩ (fun hHeld1 => ?_)
        clear hK K
        try simp only [Act.put, List.setIfInBounds_toArray, List.set_cons_zero, List.set_cons_succ]
        have hHeld := hHeld1
        refine held_step 8 rfl (by kernel_rfl) (by rfl) (fun K hK => ?_)
        go_simp
        refine (HA.out _).mono ?_
        rintro e w2 ⟨rfl, hbs2⟩
        have HB2 : Below wc.heap.size wc w2 := Below.trans HB (hbs2.mono HB.size)
        have BX14 := blk_below BX14 hbs2 (blk_lt BX14)
        try go_wp2_with fail
        have HB := HB2
        refine hK.out _ _ ⟨(HB.cell (p := ⟨gg, 4, none⟩) lt4).trans e4, (HB.cell (p := ⟨gg, 5, none⟩) lt4).trans e5, (HB.cell (p := ⟨gg, 6, none⟩) lt4).trans e6, (HB.cell (p := ⟨gg, 7, none⟩) lt4).trans e7, (HB.cell (p := ⟨g + 2, 0, none⟩) lt2).trans k2, (HB.cell (p := ⟨g, 0, none⟩) lt1).trans k0, (HB.cell (p := ⟨rb, 3, none⟩) lt3).trans r3⟩ (fun hHeld2 => ?_)
        clear hK K
        try simp only [Act.put, List.setIfInBounds_toArray, List.set_cons_zero, List.set_cons_succ]
        have hHeld := hHeld2
        refine held_take (v := ?_) 9 rfl rfl (by kernel_rfl) (by kernel_rfl) (by kernel_rfl) (fun _ _ _ h => h) (by rfl) ?_ (by assumption) ?_
        rotate_left
        · intro w hSw; (try dsimp only at hSw); go_simp; (try with_reducible rfl)
        try simp only [Act.put, List.setIfInBounds_toArray, List.set_cons_zero, List.set_cons_succ]
        refine held_take (v := ?_) 10 rfl rfl (by kernel_rfl) (by kernel_rfl) (by kernel_rfl) (fun _ _ _ h => h) (by rfl) ?_ (by assumption) ?_
        rotate_left
        · intro w hSw; (try dsimp only at hSw); go_simp; (try with_reducible rfl)
        try simp only [Act.put, List.setIfInBounds_toArray, List.set_cons_zero, List.set_cons_succ]
        refine held_take (v := ?_) 11 rfl rfl (by kernel_rfl) (by kernel_rfl) (by kernel_rfl) (fun _ _ _ h => h) (by rfl) ?_ (by assumption) ?_
        rotate_left
        · intro w hSw; (try dsimp only at hSw); go_simp; (try with_reducible rfl)
        try simp only [Act.put, List.setIfInBounds_toArray, List.set_cons_zero, List.set_cons_succ]
        refine held_take (v := ?_) 12 rfl rfl (by kernel_rfl) (by kernel_rfl) (by kernel_rfl) (fun _ _ _ h => h) (by rfl) ?_ (by assumption) ?_
        rotate_left
        · intro w hSw; (try dsimp only at hSw); go_simp; (try with_reducible rfl)
        try simp only [Act.put, List.setIfInBounds_toArray, List.set_cons_zero, List.set_cons_succ]
        refine held_take (v := ?_) 13 rfl rfl (by kernel_rfl) (by kernel_rfl) (by kernel_rfl) (fun _ _ _ h => h) (by rfl) ?_ (by assumption) ?_
        rotate_left
        · intro w hSw; (try dsimp only at hSw); go_simp; (try with_reducible rfl)
        try simp only [Act.put, List.setIfInBounds_toArray, List.set_cons_zero, List.set_cons_succ]
        refine held_step 15 rfl (by kernel_rfl) (by rfl) (fun K hK => ?_)
        obtain ⟨q0, q1, q2, q3, qz0, qz1, qz2, qz3⟩ := cells4 BX14
        go_simp
        have BXe := blk_set4 BX14 (.int .i64 ao) (.int .u64 an) (.int .i64 ai) (.int .u64 am)
        have HBe := below_set4 HB (b := wc.heap.size) HG14 (.int .i64 ao) (.int .u64 an) (.int .i64 ai) (.int .u64 am)
        have HB := HBe
        have BX14 := BXe
        clear q0 qz0 q1 qz1 q2 qz2 q3 qz3
        refine hK.out _ _ ⟨(HB.cell (p := ⟨gg, 4, none⟩) lt4).trans e4, (HB.cell (p := ⟨gg, 5, none⟩) lt4).trans e5, (HB.cell (p := ⟨gg, 6, none⟩) lt4).trans e6, (HB.cell (p := ⟨gg, 7, none⟩) lt4).trans e7, (HB.cell (p := ⟨g + 2, 0, none⟩) lt2).trans k2, (HB.cell (p := ⟨g, 0, none⟩) lt1).trans k0, (HB.cell (p := ⟨rb, 3, none⟩) lt3).trans r3⟩ (fun hHeld3 => ?_)
        clear hK K
        try simp only [Act.put, List.setIfInBounds_toArray, List.set_cons_zero, List.set_cons_succ]
        have hHeld := hHeld3
        refine held_take (v := ?_) 16 rfl rfl (by kernel_rfl) (by kernel_rfl) (by kernel_rfl) (fun _ _ _ h => h) (by rfl) ?_ (by assumption) ?_
        rotate_left
        · intro w hSw; (try dsimp only at hSw); go_simp; (try with_reducible rfl)
        try simp only [Act.put, List.setIfInBounds_toArray, List.set_cons_zero, List.set_cons_succ]
        refine held_take (v := ?_) 17 rfl rfl (by kernel_rfl) (by kernel_rfl) (by kernel_rfl) (fun _ _ _ h => h) (by rfl) ?_ (by assumption) ?_
        rotate_left
        · intro w hSw; (try dsimp only at hSw); go_simp; (try with_reducible rfl)
        try simp only [Act.put, List.setIfInBounds_toArray, List.set_cons_zero, List.set_cons_succ]
        refine held_take (v := ?_) 18 rfl rfl (by kernel_rfl) (by kernel_rfl) (by kernel_rfl) (fun _ _ _ h => h) (by rfl) ?_ (by assumption) ?_
        rotate_left
        · intro w hSw; (try dsimp only at hSw); go_simp; (try with_reducible rfl)
        try simp only [Act.put, List.setIfInBounds_toArray, List.set_cons_zero, List.set_cons_succ]
        refine wpAnyH_done (by kernel_rfl) ?_ _
        clear hHeld
        go_wp2_with fail
        go_meet
        exact ⟨_, rfl, rfl, rfl, HB, HG14, BX14⟩
    case rest =>
      obtain ⟨g2, rfl, rfl, rfl, hb2, hg2, hbh⟩ := hcut
      go_step
      by_cases hm : am2 = 0
      · as_aux_lemma =>
        have hres : RES = .ok (R, 0, 0, false) := HRES.out.1.symm.trans (RS.act_none HRES.out.2.1 HRES.out.2.2.1 HRES.out.2.2.2.1 HKD.out HRES.out.2.2.2.2 hm)
        have HRS := Lib.hid hres
        have hbb := (HIT2.out.1).trans (hb2.mono HIT2.out.1.size)
        have HBC := Lib.hid (And.intro (Upd.of_below (ks := fun k => k = rb ∨ k = mb ∨ k = g + 3 ∨ k = g + 4 ∨ k = g + 5) hbb (Nat.le_refl _)) (And.intro (RO.out.below hb2) (BOX.out.below hb2)))
        clear hb2 hbh hres HRES hbb
        subst hm
        go_wp2_with fail
        rw [HRS.out]
        exact bodyPost_ret (results_none rfl _ _ _) rfl ⟨rfl, ⟨_, _, Nat.le_succ _, HBC.out.2.1⟩, HBC.out.1, HBC.out.2.2.b3, HBC.out.2.2.b4, HBC.out.2.2.b5⟩
      by_cases hk11 : k = 11
      · subst hk11
        cases hkept : kept
        · by_cases hroom : (R.kept : Int) < R.items
          · have hres : RES = .ok (({ R with next := R.next + 1 } : RS).set ⟨contact, true, name, groups, ⟨ao, an, ai, am⟩⟩, am2, an2, true) := by rw [← HRES.out.1, RS.act_do HRES.out.2.1 HRES.out.2.2.1 HRES.out.2.2.2.1 (by decide) HRES.out.2.2.2.2 hm (by rw [hkept]; simpa using hroom), hkept]; rfl
            have hm1 : (am2 == 0) = false := by simpa using hm
            have HRS := Lib.hid hres
            clear hres hm HRES
            clear d1 d2 HKD
            subst hkept
            have HB2 := Lib.hid ((HIT2.out.1).trans (hb2.mono HIT2.out.1.size))
            have BOX2 := Lib.hid (BOX.out.below hb2)
            have RO2 := Lib.hid (RO.out.below hb2)
            have EB2 := Lib.hid (blk_below HIT2.out.2.2.1 hb2 (blk_lt HIT2.out.2.2.1))
            have GR2 := Lib.hid (HIT2.out.2.2.2.kept fun k cur hk _ => hb2.block k (blk_lt hk))
            have HBH2 := Lib.hid hbh
            have HGG := Lib.hid (And.intro HIT2.out.2.1 (Nat.le_trans HIT2.out.1.size hg2))
            have hne2 : gg ≠ g2 := by have := blk_lt HIT2.out.2.2.1; omega
            have HNE2 := Lib.hid hne2
            clear hb2 hbh hg2 hne2 BOX RO HIT2 lt1 lt2 lt3 lt4 r3 k2 k0 e4 e5 e6 e7
            have k2 : wc.cell? ⟨g + 2, 0, none⟩ = some (.int .i64 11) := blk_cell BOX2.out.b2 0
            have k0 : wc.cell? ⟨g, 0, none⟩ = some (.pointer (some ⟨rb, 0, none⟩)) := blk_cell BOX2.out.b0 0
            obtain ⟨x0, x1, x2, x3, x4, x5, x6, x7, xz0, xz1, xz2, xz3, xz4, xz5, xz6, xz7⟩ := cells8 (EB2.out)
            go_wp2_with fail
            refine (room_new RO2.out (⟨contact, false, name, groups, ⟨o, hn', i, m⟩⟩ : Ent) _ rfl hroom).mono ?_
            rintro e w5 ⟨rfl, hb5⟩
            have HB5 := Lib.hid (HB2.out.trans (hb5.mono HB2.out.size))
            have BOX5 := Lib.hid (BOX2.out.below hb5)
            have RO5 := Lib.hid (RO2.out.below hb5)
            have EB5 := Lib.hid (blk_below EB2.out hb5 (blk_lt EB2.out))
            have GR5 := Lib.hid (GR2.out.kept fun k cur hk _ => hb5.block k (blk_lt hk))
            have HBH5 := Lib.hid (blk_below HBH2.out hb5 (blk_lt HBH2.out))
            clear hb5 HB2 BOX2 RO2 EB2 GR2 HBH2 k2 k0 x0 xz0 x1 xz1 x2 xz2 x3 xz3 x4 xz4 x5 xz5 x6 xz6 x7 xz7
            have k2 : w5.cell? ⟨g + 2, 0, none⟩ = some (.int .i64 11) := blk_cell BOX5.out.b2 0
            have k0 : w5.cell? ⟨g, 0, none⟩ = some (.pointer (some ⟨rb, 0, none⟩)) := blk_cell BOX5.out.b0 0
            obtain ⟨x0, x1, x2, x3, x4, x5, x6, x7, xz0, xz1, xz2, xz3, xz4, xz5, xz6, xz7⟩ := cells8 (EB5.out)
            obtain ⟨y0, y1, y2, y3, _, _, _, _⟩ := cells4 (HBH5.out)
            have r3 : w5.cell? ⟨rb, 3, none⟩ = some (.int .u64 R.next) := blk_cell RO5.out.cells 3
            have rz3 : w5.frozen? ⟨rb, 3, none⟩ = false := blk_frozen RO5.out.cells 3
            have rlt := RO5.out.lt
            have hl5 := blk_lt HX.out.b5
            have ne_ggg2 : ¬ gg = g2 := by have := HGG.out; have := HGB.out; have := HNE2.out; omega
            have ne2_ggg2 : ¬ g2 = gg := fun e => ne_ggg2 e.symm
            have ne3_ggg2 : (gg == g2) = false := by simpa using ne_ggg2
            have ne_rbg2 : ¬ rb = g2 := by have := HGG.out; have := HGB.out; have := HNE2.out; omega
            have ne2_rbg2 : ¬ g2 = rb := fun e => ne_rbg2 e.symm
            have ne3_rbg2 : (rb == g2) = false := by simpa using ne_rbg2
            have ne_ggg : ¬ g = gg := by have := HGG.out; have := HGB.out; have := HNE2.out; omega
            have ne2_ggg : ¬ gg = g := fun e => ne_ggg e.symm
            have ne3_ggg : (g == gg) = false := by simpa using ne_ggg
            have ne_gp2gg : ¬ g + 2 = gg := by have := HGG.out; have := HGB.out; have := HNE2.out; omega
            have ne2_gp2gg : ¬ gg = g + 2 := fun e => ne_gp2gg e.symm
            have ne3_gp2gg : (g + 2 == gg) = false := by simpa using ne_gp2gg
            have ne_rbgg : ¬ rb = gg := by have := HGG.out; have := HGB.out; have := HNE2.out; omega
            have ne2_rbgg : ¬ gg = rb := fun e => ne_rbgg e.symm
            have ne3_rbgg : (rb == gg) = false := by simpa using ne_rbgg
            have ne_rbg : ¬ rb = g := by have := HGG.out; have := HGB.out; have := HNE2.out; omega
            have ne2_rbg : ¬ g = rb := fun e => ne_rbg e.symm
            have ne3_rbg : (rb == g) = false := by simpa using ne_rbg
            have ne_rbgp2 : ¬ rb = g + 2 := by have := HGG.out; have := HGB.out; have := HNE2.out; omega
            have ne2_rbgp2 : ¬ g + 2 = rb := fun e => ne_rbgp2 e.symm
            have ne3_rbgp2 : (rb == g + 2) = false := by simpa using ne_rbgp2
            have nrg : rb ≠ gg := by have := HGG.out.1; have := HGB.out; omega
            have nmg : mb ≠ gg := by have := HGG.out.1; have := HGB.out; omega
            have su1 : Upd w5.heap.size (fun k => k = gg) w5 (w5.setCell ⟨gg, 1, none⟩ (.bool true)) := Upd.setCell (ks := fun k => k = gg) (Upd.refl _ _ _) (a := (⟨gg, 1, none⟩ : Addr)) (.inl rfl) _
            have hz1 := RoAtK.upd (RO5.out) su1 (Nat.le_refl _) nrg nmg (fun k cur hk _ e => by subst e; rw [EB5.out] at hk; simp at hk)
            have gr1 : Grp (w5.setCell ⟨gg, 1, none⟩ (.bool true)) W.heap.size (.slice A groups.length c) groups := (GR5.out).kept fun k cur hk _ => su1.block k (blk_lt hk) (fun e => by subst e; rw [EB5.out] at hk; simp at hk)
            have eb1 : (w5.setCell ⟨gg, 1, none⟩ (.bool true)).heap[gg]? = some (.cells #[.string contact, .bool true, .string name, .slice A groups.length c, .int .i64 o, .int .u64 hn', .int .i64 i, .int .u64 m] 54) := blk_set_same (EB5.out) 1 _
            have hz2 : RoAt ((w5.setCell ⟨gg, 1, none⟩ (.bool true)).setCell ⟨rb, 3, none⟩ (.int .u64 (R.next + 1))) B rb mb n D { R with next := R.next + 1 } := RoAtK.field (hz1) 3 _ rfl rfl
            have eb2 : ((w5.setCell ⟨gg, 1, none⟩ (.bool true)).setCell ⟨rb, 3, none⟩ (.int .u64 (R.next + 1))).heap[gg]? = some (.cells #[.string contact, .bool true, .string name, .slice A groups.length c, .int .i64 o, .int .u64 hn', .int .i64 i, .int .u64 m] 54) := blk_set_other (eb1) _ (fun e => nrg e.symm)
            have gr2 : Grp ((w5.setCell ⟨gg, 1, none⟩ (.bool true)).setCell ⟨rb, 3, none⟩ (.int .u64 (R.next + 1))) W.heap.size (.slice A groups.length c) groups := (gr1).kept fun k cur hk _ => Below.heap_setCell _ _ _ k (fun e => by have e2 : k = rb := e; subst e2; have h0 := (hz1).cells; rw [hk] at h0; simp at h0)
            have su3 : Upd ((w5.setCell ⟨gg, 1, none⟩ (.bool true)).setCell ⟨rb, 3, none⟩ (.int .u64 (R.next + 1))).heap.size (fun k => k = gg) ((w5.setCell ⟨gg, 1, none⟩ (.bool true)).setCell ⟨rb, 3, none⟩ (.int .u64 (R.next + 1))) (((w5.setCell ⟨gg, 1, none⟩ (.bool true)).setCell ⟨rb, 3, none⟩ (.int .u64 (R.next + 1))).setCell ⟨gg, 4, none⟩ (.int .i64 ao)) := Upd.setCell (ks := fun k => k = gg) (Upd.refl _ _ _) (a := (⟨gg, 4, none⟩ : Addr)) (.inl rfl) _
            have hz3 := RoAtK.upd (hz2) su3 (Nat.le_refl _) nrg nmg (fun k cur hk _ e => by subst e; rw [eb2] at hk; simp at hk)
            have gr3 : Grp (((w5.setCell ⟨gg, 1, none⟩ (.bool true)).setCell ⟨rb, 3, none⟩ (.int .u64 (R.next + 1))).setCell ⟨gg, 4, none⟩ (.int .i64 ao)) W.heap.size (.slice A groups.length c) groups := (gr2).kept fun k cur hk _ => su3.block k (blk_lt hk) (fun e => by subst e; rw [eb2] at hk; simp at hk)
            have eb3 : (((w5.setCell ⟨gg, 1, none⟩ (.bool true)).setCell ⟨rb, 3, none⟩ (.int .u64 (R.next + 1))).setCell ⟨gg, 4, none⟩ (.int .i64 ao)).heap[gg]? = some (.cells #[.string contact, .bool true, .string name, .slice A groups.length c, .int .i64 ao, .int .u64 hn', .int .i64 i, .int .u64 m] 54) := blk_set_same (eb2) 4 _
            have su4 : Upd (((w5.setCell ⟨gg, 1, none⟩ (.bool true)).setCell ⟨rb, 3, none⟩ (.int .u64 (R.next + 1))).setCell ⟨gg, 4, none⟩ (.int .i64 ao)).heap.size (fun k => k = gg) (((w5.setCell ⟨gg, 1, none⟩ (.bool true)).setCell ⟨rb, 3, none⟩ (.int .u64 (R.next + 1))).setCell ⟨gg, 4, none⟩ (.int .i64 ao)) ((((w5.setCell ⟨gg, 1, none⟩ (.bool true)).setCell ⟨rb, 3, none⟩ (.int .u64 (R.next + 1))).setCell ⟨gg, 4, none⟩ (.int .i64 ao)).setCell ⟨gg, 5, none⟩ (.int .u64 an)) := Upd.setCell (ks := fun k => k = gg) (Upd.refl _ _ _) (a := (⟨gg, 5, none⟩ : Addr)) (.inl rfl) _
            have hz4 := RoAtK.upd (hz3) su4 (Nat.le_refl _) nrg nmg (fun k cur hk _ e => by subst e; rw [eb3] at hk; simp at hk)
            have gr4 : Grp ((((w5.setCell ⟨gg, 1, none⟩ (.bool true)).setCell ⟨rb, 3, none⟩ (.int .u64 (R.next + 1))).setCell ⟨gg, 4, none⟩ (.int .i64 ao)).setCell ⟨gg, 5, none⟩ (.int .u64 an)) W.heap.size (.slice A groups.length c) groups := (gr3).kept fun k cur hk _ => su4.block k (blk_lt hk) (fun e => by subst e; rw [eb3] at hk; simp at hk)
            have eb4 : ((((w5.setCell ⟨gg, 1, none⟩ (.bool true)).setCell ⟨rb, 3, none⟩ (.int .u64 (R.next + 1))).setCell ⟨gg, 4, none⟩ (.int .i64 ao)).setCell ⟨gg, 5, none⟩ (.int .u64 an)).heap[gg]? = some (.cells #[.string contact, .bool true, .string name, .slice A groups.length c, .int .i64 ao, .int .u64 an, .int .i64 i, .int .u64 m] 54) := blk_set_same (eb3) 5 _
            have su5 : Upd ((((w5.setCell ⟨gg, 1, none⟩ (.bool true)).setCell ⟨rb, 3, none⟩ (.int .u64 (R.next + 1))).setCell ⟨gg, 4, none⟩ (.int .i64 ao)).setCell ⟨gg, 5, none⟩ (.int .u64 an)).heap.size (fun k => k = gg) ((((w5.setCell ⟨gg, 1, none⟩ (.bool true)).setCell ⟨rb, 3, none⟩ (.int .u64 (R.next + 1))).setCell ⟨gg, 4, none⟩ (.int .i64 ao)).setCell ⟨gg, 5, none⟩ (.int .u64 an)) (((((w5.setCell ⟨gg, 1, none⟩ (.bool true)).setCell ⟨rb, 3, none⟩ (.int .u64 (R.next + 1))).setCell ⟨gg, 4, none⟩ (.int .i64 ao)).setCell ⟨gg, 5, none⟩ (.int .u64 an)).setCell ⟨gg, 6, none⟩ (.int .i64 ai)) := Upd.setCell (ks := fun k => k = gg) (Upd.refl _ _ _) (a := (⟨gg, 6, none⟩ : Addr)) (.inl rfl) _
            have hz5 := RoAtK.upd (hz4) su5 (Nat.le_refl _) nrg nmg (fun k cur hk _ e => by subst e; rw [eb4] at hk; simp at hk)
            have gr5 : Grp (((((w5.setCell ⟨gg, 1, none⟩ (.bool true)).setCell ⟨rb, 3, none⟩ (.int .u64 (R.next + 1))).setCell ⟨gg, 4, none⟩ (.int .i64 ao)).setCell ⟨gg, 5, none⟩ (.int .u64 an)).setCell ⟨gg, 6, none⟩ (.int .i64 ai)) W.heap.size (.slice A groups.length c) groups := (gr4).kept fun k cur hk _ => su5.block k (blk_lt hk) (fun e => by subst e; rw [eb4] at hk; simp at hk)
            have eb5 : (((((w5.setCell ⟨gg, 1, none⟩ (.bool true)).setCell ⟨rb, 3, none⟩ (.int .u64 (R.next + 1))).setCell ⟨gg, 4, none⟩ (.int .i64 ao)).setCell ⟨gg, 5, none⟩ (.int .u64 an)).setCell ⟨gg, 6, none⟩ (.int .i64 ai)).heap[gg]? = some (.cells #[.string contact, .bool true, .string name, .slice A groups.length c, .int .i64 ao, .int .u64 an, .int .i64 ai, .int .u64 m] 54) := blk_set_same (eb4) 6 _
            have su6 : Upd (((((w5.setCell ⟨gg, 1, none⟩ (.bool true)).setCell ⟨rb, 3, none⟩ (.int .u64 (R.next + 1))).setCell ⟨gg, 4, none⟩ (.int .i64 ao)).setCell ⟨gg, 5, none⟩ (.int .u64 an)).setCell ⟨gg, 6, none⟩ (.int .i64 ai)).heap.size (fun k => k = gg) (((((w5.setCell ⟨gg, 1, none⟩ (.bool true)).setCell ⟨rb, 3, none⟩ (.int .u64 (R.next + 1))).setCell ⟨gg, 4, none⟩ (.int .i64 ao)).setCell ⟨gg, 5, none⟩ (.int .u64 an)).setCell ⟨gg, 6, none⟩ (.int .i64 ai)) ((((((w5.setCell ⟨gg, 1, none⟩ (.bool true)).setCell ⟨rb, 3, none⟩ (.int .u64 (R.next + 1))).setCell ⟨gg, 4, none⟩ (.int .i64 ao)).setCell ⟨gg, 5, none⟩ (.int .u64 an)).setCell ⟨gg, 6, none⟩ (.int .i64 ai)).setCell ⟨gg, 7, none⟩ (.int .u64 am)) := Upd.setCell (ks := fun k => k = gg) (Upd.refl _ _ _) (a := (⟨gg, 7, none⟩ : Addr)) (.inl rfl) _
            have hz6 := RoAtK.upd (hz5) su6 (Nat.le_refl _) nrg nmg (fun k cur hk _ e => by subst e; rw [eb5] at hk; simp at hk)
            have gr6 : Grp ((((((w5.setCell ⟨gg, 1, none⟩ (.bool true)).setCell ⟨rb, 3, none⟩ (.int .u64 (R.next + 1))).setCell ⟨gg, 4, none⟩ (.int .i64 ao)).setCell ⟨gg, 5, none⟩ (.int .u64 an)).setCell ⟨gg, 6, none⟩ (.int .i64 ai)).setCell ⟨gg, 7, none⟩ (.int .u64 am)) W.heap.size (.slice A groups.length c) groups := (gr5).kept fun k cur hk _ => su6.block k (blk_lt hk) (fun e => by subst e; rw [eb5] at hk; simp at hk)
            have eb6 : ((((((w5.setCell ⟨gg, 1, none⟩ (.bool true)).setCell ⟨rb, 3, none⟩ (.int .u64 (R.next + 1))).setCell ⟨gg, 4, none⟩ (.int .i64 ao)).setCell ⟨gg, 5, none⟩ (.int .u64 an)).setCell ⟨gg, 6, none⟩ (.int .i64 ai)).setCell ⟨gg, 7, none⟩ (.int .u64 am)).heap[gg]? = some (.cells #[.string contact, .bool true, .string name, .slice A groups.length c, .int .i64 ao, .int .u64 an, .int .i64 ai, .int .u64 am] 54) := blk_set_same (eb5) 7 _
            have HS : Upd w5.heap.size (fun k => k = gg ∨ k = rb) w5 ((((((w5.setCell ⟨gg, 1, none⟩ (.bool true)).setCell ⟨rb, 3, none⟩ (.int .u64 (R.next + 1))).setCell ⟨gg, 4, none⟩ (.int .i64 ao)).setCell ⟨gg, 5, none⟩ (.int .u64 an)).setCell ⟨gg, 6, none⟩ (.int .i64 ai)).setCell ⟨gg, 7, none⟩ (.int .u64 am)) := (Upd.setCell (ks := fun k => k = gg ∨ k = rb) (Upd.setCell (ks := fun k => k = gg ∨ k = rb) (Upd.setCell (ks := fun k => k = gg ∨ k = rb) (Upd.setCell (ks := fun k => k = gg ∨ k = rb) (Upd.setCell (ks := fun k => k = gg ∨ k = rb) (Upd.setCell (ks := fun k => k = gg ∨ k = rb) (Upd.refl _ _ _) (a := (⟨gg, 1, none⟩ : Addr)) (.inl (.inl rfl)) _) (a := (⟨rb, 3, none⟩ : Addr)) (.inl (.inr rfl)) _) (a := (⟨gg, 4, none⟩ : Addr)) (.inl (.inl rfl)) _) (a := (⟨gg, 5, none⟩ : Addr)) (.inl (.inl rfl)) _) (a := (⟨gg, 6, none⟩ : Addr)) (.inl (.inl rfl)) _) (a := (⟨gg, 7, none⟩ : Addr)) (.inl (.inl rfl)) _)
            have HZ := Lib.hid (And.intro (hz6) (And.intro (eb6) (And.intro (gr6) HS)))
            clear HS hz1 eb1 gr1 hz2 eb2 gr2 hz3 eb3 gr3 hz4 eb4 gr4 hz5 eb5 gr5 hz6 eb6 gr6 su1 su3 su4 su5 su6
            go_wp2_with fail
            generalize hWX : ((((((w5.setCell ⟨gg, 1, none⟩ (.bool true)).setCell ⟨rb, 3, none⟩ (.int .u64 (R.next + 1))).setCell ⟨gg, 4, none⟩ (.int .i64 ao)).setCell ⟨gg, 5, none⟩ (.int .u64 an)).setCell ⟨gg, 6, none⟩ (.int .i64 ai)).setCell ⟨gg, 7, none⟩ (.int .u64 am)) = WX at HZ ⊢
            clear hWX k2 k0 r3 rz3 x0 xz0 x1 xz1 x2 xz2 x3 xz3 x4 xz4 x5 xz5 x6 xz6 x7 xz7 y0 y1 y2 y3
            refine (rset_any HZ.out.1 (⟨contact, true, name, groups, ⟨ao, an, ai, am⟩⟩ : Ent) _ HZ.out.2.2.1.strs HGL.out.1 HGL.out.2.1 HGL.out.2.2.1 (by have := HGL.out.2.2.2; have := HB5.out.size; have := HZ.out.2.2.2.size; omega)).mono ?_
            rintro e w6 ⟨rfl, hro6, hu6⟩
            have hl1 := blk_lt HX.out.b5
            have BX6 := blk_upd HZ.out.2.1 hu6 (blk_lt HZ.out.2.1) (by rintro (e | e); exact nrg e.symm; exact nmg e.symm)
            have T3 := blk_upd (blk_upd BOX5.out.b3 HZ.out.2.2.2 (blk_lt BOX5.out.b3) (by have := HGB.out; have := HGG.out.1; rintro (e | e) <;> omega)) hu6 (by have := HZ.out.2.2.2.size; have := blk_lt BOX5.out.b3; omega) (by have := HGB.out; rintro (e | e) <;> omega)
            have T4 := blk_upd (blk_upd BOX5.out.b4 HZ.out.2.2.2 (blk_lt BOX5.out.b4) (by have := HGB.out; have := HGG.out.1; rintro (e | e) <;> omega)) hu6 (by have := HZ.out.2.2.2.size; have := blk_lt BOX5.out.b4; omega) (by have := HGB.out; rintro (e | e) <;> omega)
            have T5 := blk_upd (blk_upd BOX5.out.b5 HZ.out.2.2.2 (blk_lt BOX5.out.b5) (by have := HGB.out; have := HGG.out.1; rintro (e | e) <;> omega)) hu6 (by have := HZ.out.2.2.2.size; have := blk_lt BOX5.out.b5; omega) (by have := HGB.out; rintro (e | e) <;> omega)
            have HU6 : Upd W.heap.size (fun k => k = rb ∨ k = mb ∨ k = g + 3 ∨ k = g + 4 ∨ k = g + 5) W w6 := act_upd HB5.out HZ.out.2.2.2 hu6 HGG.out.1
            have HF := Lib.hid (And.intro hro6 (And.intro HU6 (And.intro T3 (And.intro T4 T5))))
            have x1 : w6.cell? ⟨gg, 1, none⟩ = some (.bool true) := blk_cell BX6 1
            have t3 : w6.cell? ⟨g + 3, 0, none⟩ = some (.int .i64 0) := blk_cell T3 0
            have tz3 : w6.frozen? ⟨g + 3, 0, none⟩ = false := blk_frozen T3 0
            have t4 : w6.cell? ⟨g + 4, 0, none⟩ = some (.int .u64 0) := blk_cell T4 0
            have tz4 : w6.frozen? ⟨g + 4, 0, none⟩ = false := blk_frozen T4 0
            have t5 : w6.cell? ⟨g + 5, 0, none⟩ = some (.bool false) := blk_cell T5 0
            have tz5 : w6.frozen? ⟨g + 5, 0, none⟩ = false := blk_frozen T5 0
            clear hro6 hu6 BX6 T3 T4 T5 HU6 HZ
            go_wp2_with fail
            go_region
            all_goals
              go_wp2_with fail
              go_end0
              rw [HRS.out]
              exact ⟨rfl, act_fin HF.out.1 HF.out.2.1 HGB.out HF.out.2.2.1 HF.out.2.2.2.1 HF.out.2.2.2.2 _ _ _⟩
          · have hres : RES = .error 8 := HRES.out.1.symm.trans (RS.act_full HRES.out.2.1 HRES.out.2.2.1 HRES.out.2.2.2.1 (by decide) HRES.out.2.2.2.2 hm (by decide) hkept hroom)
            have hm1 : (am2 == 0) = false := by simpa using hm
            have HRS := Lib.hid hres
            clear hres hm HRES
            clear d1 d2 HKD
            subst hkept
            have HB2 := Lib.hid ((HIT2.out.1).trans (hb2.mono HIT2.out.1.size))
            have BOX2 := Lib.hid (BOX.out.below hb2)
            have RO2 := Lib.hid (RO.out.below hb2)
            have EB2 := Lib.hid (blk_below HIT2.out.2.2.1 hb2 (blk_lt HIT2.out.2.2.1))
            have GR2 := Lib.hid (HIT2.out.2.2.2.kept fun k cur hk _ => hb2.block k (blk_lt hk))
            have HBH2 := Lib.hid hbh
            have HGG := Lib.hid (And.intro HIT2.out.2.1 (Nat.le_trans HIT2.out.1.size hg2))
            have hne2 : gg ≠ g2 := by have := blk_lt HIT2.out.2.2.1; omega
            have HNE2 := Lib.hid hne2
            clear hb2 hbh hg2 hne2 BOX RO HIT2 lt1 lt2 lt3 lt4 r3 k2 k0 e4 e5 e6 e7
            have k2 : wc.cell? ⟨g + 2, 0, none⟩ = some (.int .i64 11) := blk_cell BOX2.out.b2 0
            have k0 : wc.cell? ⟨g, 0, none⟩ = some (.pointer (some ⟨rb, 0, none⟩)) := blk_cell BOX2.out.b0 0
            obtain ⟨x0, x1, x2, x3, x4, x5, x6, x7, xz0, xz1, xz2, xz3, xz4, xz5, xz6, xz7⟩ := cells8 (EB2.out)
            go_wp2_with fail
            refine (room_full RO2.out (⟨contact, false, name, groups, ⟨o, hn', i, m⟩⟩ : Ent) _ rfl (by omega)).mono ?_
            rintro e w5 ⟨rfl, hb5⟩
            go_wp2_with fail
            rw [HRS.out]
            exact ⟨rfl, rfl, HB2.out.trans (hb5.mono HB2.out.size)⟩
        · have hres : RES = .ok (({ R with next := R.next + 1 } : RS).set ⟨contact, true, name, groups, ⟨ao, an, ai, am⟩⟩, am2, an2, true) := by rw [← HRES.out.1, RS.act_do HRES.out.2.1 HRES.out.2.2.1 HRES.out.2.2.2.1 (by decide) HRES.out.2.2.2.2 hm (by rw [hkept]; simp), hkept]; rfl
          have hm1 : (am2 == 0) = false := by simpa using hm
          have HRS := Lib.hid hres
          clear hres hm HRES
          clear d1 d2 HKD
          subst hkept
          have HB2 := Lib.hid ((HIT2.out.1).trans (hb2.mono HIT2.out.1.size))
          have BOX2 := Lib.hid (BOX.out.below hb2)
          have RO2 := Lib.hid (RO.out.below hb2)
          have EB2 := Lib.hid (blk_below HIT2.out.2.2.1 hb2 (blk_lt HIT2.out.2.2.1))
          have GR2 := Lib.hid (HIT2.out.2.2.2.kept fun k cur hk _ => hb2.block k (blk_lt hk))
          have HBH2 := Lib.hid hbh
          have HGG := Lib.hid (And.intro HIT2.out.2.1 (Nat.le_trans HIT2.out.1.size hg2))
          have hne2 : gg ≠ g2 := by have := blk_lt HIT2.out.2.2.1; omega
          have HNE2 := Lib.hid hne2
          clear hb2 hbh hg2 hne2 BOX RO HIT2 lt1 lt2 lt3 lt4 r3 k2 k0 e4 e5 e6 e7
          have k2 : wc.cell? ⟨g + 2, 0, none⟩ = some (.int .i64 11) := blk_cell BOX2.out.b2 0
          have k0 : wc.cell? ⟨g, 0, none⟩ = some (.pointer (some ⟨rb, 0, none⟩)) := blk_cell BOX2.out.b0 0
          obtain ⟨x0, x1, x2, x3, x4, x5, x6, x7, xz0, xz1, xz2, xz3, xz4, xz5, xz6, xz7⟩ := cells8 (EB2.out)
          go_wp2_with fail
          refine (room_kept RO2.out (⟨contact, true, name, groups, ⟨o, hn', i, m⟩⟩ : Ent) _ rfl).mono ?_
          rintro e w5 ⟨rfl, hb5⟩
          have HB5 := Lib.hid (HB2.out.trans (hb5.mono HB2.out.size))
          have BOX5 := Lib.hid (BOX2.out.below hb5)
          have RO5 := Lib.hid (RO2.out.below hb5)
          have EB5 := Lib.hid (blk_below EB2.out hb5 (blk_lt EB2.out))
          have GR5 := Lib.hid (GR2.out.kept fun k cur hk _ => hb5.block k (blk_lt hk))
          have HBH5 := Lib.hid (blk_below HBH2.out hb5 (blk_lt HBH2.out))
          clear hb5 HB2 BOX2 RO2 EB2 GR2 HBH2 k2 k0 x0 xz0 x1 xz1 x2 xz2 x3 xz3 x4 xz4 x5 xz5 x6 xz6 x7 xz7
          have k2 : w5.cell? ⟨g + 2, 0, none⟩ = some (.int .i64 11) := blk_cell BOX5.out.b2 0
          have k0 : w5.cell? ⟨g, 0, none⟩ = some (.pointer (some ⟨rb, 0, none⟩)) := blk_cell BOX5.out.b0 0
          obtain ⟨x0, x1, x2, x3, x4, x5, x6, x7, xz0, xz1, xz2, xz3, xz4, xz5, xz6, xz7⟩ := cells8 (EB5.out)
          go_upto_region 7 with fail
          have nrg0 : rb ≠ gg := by have := HGG.out.1; have := HGB.out; omega
          have nmg0 : mb ≠ gg := by have := HGG.out.1; have := HGB.out; omega
          have su0 : Upd w5.heap.size (fun k => k = gg) w5 (w5.setCell ⟨gg, 1, none⟩ (.bool true)) := Upd.setCell (ks := fun k => k = gg) (Upd.refl _ _ _) (a := (⟨gg, 1, none⟩ : Addr)) (.inl rfl) _
          have RO7 := Lib.hid (RoAtK.upd RO5.out su0 (Nat.le_refl _) nrg0 nmg0 (fun k cur hk _ e => by subst e; rw [EB5.out] at hk; simp at hk))
          have GR7 := Lib.hid (GR5.out.kept fun k cur hk _ => su0.block k (blk_lt hk) (fun e => by subst e; rw [EB5.out] at hk; simp at hk))
          have EB7 : Hid ((w5.setCell ⟨gg, 1, none⟩ (.bool true)).heap[gg]? = some (.cells #[.string contact, .bool true, .string name, .slice A groups.length c, .int .i64 o, .int .u64 hn', .int .i64 i, .int .u64 m] 54)) := Lib.hid (blk_set_same EB5.out 1 _)
          have HBH7 := Lib.hid (blk_set_other HBH5.out (a := (⟨gg, 1, none⟩ : Addr)) (.bool true) (fun e => HNE2.out e.symm))
          have BOX7 := Lib.hid (BOX5.out.upd su0 (Nat.le_refl _) (fun j hj e => by have := blk_lt HX.out.b5; have := HGG.out.1; omega))
          have HB7 : Hid (Below W.heap.size W (w5.setCell ⟨gg, 1, none⟩ (.bool true))) := Lib.hid (HB5.out.setCell HGG.out.1 (.bool true))
          clear su0 nrg0 nmg0 HB5 BOX5 RO5 EB5 GR5 HBH5 k2 k0 x0 xz0 x1 xz1 x2 xz2 x3 xz3 x4 xz4 x5 xz5 x6 xz6 x7 xz7
          generalize hW7 : w5.setCell ⟨gg, 1, none⟩ (.bool true) = w7 at RO7 GR7 EB7 HBH7 BOX7 HB7 ⊢
          clear hW7
          have k2 : w7.cell? ⟨g + 2, 0, none⟩ = some (.int .i64 11) := blk_cell BOX7.out.b2 0
          have k0 : w7.cell? ⟨g, 0, none⟩ = some (.pointer (some ⟨rb, 0, none⟩)) := blk_cell BOX7.out.b0 0
          obtain ⟨x0, x1, x2, x3, x4, x5, x6, x7, xz0, xz1, xz2, xz3, xz4, xz5, xz6, xz7⟩ := cells8 (EB7.out)
          obtain ⟨y0, y1, y2, y3, _, _, _, _⟩ := cells4 (HBH7.out)
          have r3 : w7.cell? ⟨rb, 3, none⟩ = some (.int .u64 R.next) := blk_cell RO7.out.cells 3
          have rz3 : w7.frozen? ⟨rb, 3, none⟩ = false := blk_frozen RO7.out.cells 3
          have rlt := RO7.out.lt
          have hl5 := blk_lt HX.out.b5
          have ne_ggg2 : ¬ gg = g2 := by have := HGG.out; have := HGB.out; have := HNE2.out; omega
          have ne2_ggg2 : ¬ g2 = gg := fun e => ne_ggg2 e.symm
          have ne3_ggg2 : (gg == g2) = false := by simpa using ne_ggg2
          have ne_rbg2 : ¬ rb = g2 := by have := HGG.out; have := HGB.out; have := HNE2.out; omega
          have ne2_rbg2 : ¬ g2 = rb := fun e => ne_rbg2 e.symm
          have ne3_rbg2 : (rb == g2) = false := by simpa using ne_rbg2
          have ne_ggg : ¬ g = gg := by have := HGG.out; have := HGB.out; have := HNE2.out; omega
          have ne2_ggg : ¬ gg = g := fun e => ne_ggg e.symm
          have ne3_ggg : (g == gg) = false := by simpa using ne_ggg
          have ne_gp2gg : ¬ g + 2 = gg := by have := HGG.out; have := HGB.out; have := HNE2.out; omega
          have ne2_gp2gg : ¬ gg = g + 2 := fun e => ne_gp2gg e.symm
          have ne3_gp2gg : (g + 2 == gg) = false := by simpa using ne_gp2gg
          have ne_rbgg : ¬ rb = gg := by have := HGG.out; have := HGB.out; have := HNE2.out; omega
          have ne2_rbgg : ¬ gg = rb := fun e => ne_rbgg e.symm
          have ne3_rbgg : (rb == gg) = false := by simpa using ne_rbgg
          have ne_rbg : ¬ rb = g := by have := HGG.out; have := HGB.out; have := HNE2.out; omega
          have ne2_rbg : ¬ g = rb := fun e => ne_rbg e.symm
          have ne3_rbg : (rb == g) = false := by simpa using ne_rbg
          have ne_rbgp2 : ¬ rb = g + 2 := by have := HGG.out; have := HGB.out; have := HNE2.out; omega
          have ne2_rbgp2 : ¬ g + 2 = rb := fun e => ne_rbgp2 e.symm
          have ne3_rbgp2 : (rb == g + 2) = false := by simpa using ne_rbgp2
          have nrg : rb ≠ gg := by have := HGG.out.1; have := HGB.out; omega
          have nmg : mb ≠ gg := by have := HGG.out.1; have := HGB.out; omega
          have hz1 : RoAt (w7.setCell ⟨rb, 3, none⟩ (.int .u64 (R.next + 1))) B rb mb n D { R with next := R.next + 1 } := RoAtK.field (RO7.out) 3 _ rfl rfl
          have eb1 : (w7.setCell ⟨rb, 3, none⟩ (.int .u64 (R.next + 1))).heap[gg]? = some (.cells #[.string contact, .bool true, .string name, .slice A groups.length c, .int .i64 o, .int .u64 hn', .int .i64 i, .int .u64 m] 54) := blk_set_other (EB7.out) _ (fun e => nrg e.symm)
          have gr1 : Grp (w7.setCell ⟨rb, 3, none⟩ (.int .u64 (R.next + 1))) W.heap.size (.slice A groups.length c) groups := (GR7.out).kept fun k cur hk _ => Below.heap_setCell _ _ _ k (fun e => by have e2 : k = rb := e; subst e2; have h0 := (RO7.out).cells; rw [hk] at h0; simp at h0)
          have su2 : Upd (w7.setCell ⟨rb, 3, none⟩ (.int .u64 (R.next + 1))).heap.size (fun k => k = gg) (w7.setCell ⟨rb, 3, none⟩ (.int .u64 (R.next + 1))) ((w7.setCell ⟨rb, 3, none⟩ (.int .u64 (R.next + 1))).setCell ⟨gg, 4, none⟩ (.int .i64 ao)) := Upd.setCell (ks := fun k => k = gg) (Upd.refl _ _ _) (a := (⟨gg, 4, none⟩ : Addr)) (.inl rfl) _
          have hz2 := RoAtK.upd (hz1) su2 (Nat.le_refl _) nrg nmg (fun k cur hk _ e => by subst e; rw [eb1] at hk; simp at hk)
          have gr2 : Grp ((w7.setCell ⟨rb, 3, none⟩ (.int .u64 (R.next + 1))).setCell ⟨gg, 4, none⟩ (.int .i64 ao)) W.heap.size (.slice A groups.length c) groups := (gr1).kept fun k cur hk _ => su2.block k (blk_lt hk) (fun e => by subst e; rw [eb1] at hk; simp at hk)
          have eb2 : ((w7.setCell ⟨rb, 3, none⟩ (.int .u64 (R.next + 1))).setCell ⟨gg, 4, none⟩ (.int .i64 ao)).heap[gg]? = some (.cells #[.string contact, .bool true, .string name, .slice A groups.length c, .int .i64 ao, .int .u64 hn', .int .i64 i, .int .u64 m] 54) := blk_set_same (eb1) 4 _
          have su3 : Upd ((w7.setCell ⟨rb, 3, none⟩ (.int .u64 (R.next + 1))).setCell ⟨gg, 4, none⟩ (.int .i64 ao)).heap.size (fun k => k = gg) ((w7.setCell ⟨rb, 3, none⟩ (.int .u64 (R.next + 1))).setCell ⟨gg, 4, none⟩ (.int .i64 ao)) (((w7.setCell ⟨rb, 3, none⟩ (.int .u64 (R.next + 1))).setCell ⟨gg, 4, none⟩ (.int .i64 ao)).setCell ⟨gg, 5, none⟩ (.int .u64 an)) := Upd.setCell (ks := fun k => k = gg) (Upd.refl _ _ _) (a := (⟨gg, 5, none⟩ : Addr)) (.inl rfl) _
          have hz3 := RoAtK.upd (hz2) su3 (Nat.le_refl _) nrg nmg (fun k cur hk _ e => by subst e; rw [eb2] at hk; simp at hk)
          have gr3 : Grp (((w7.setCell ⟨rb, 3, none⟩ (.int .u64 (R.next + 1))).setCell ⟨gg, 4, none⟩ (.int .i64 ao)).setCell ⟨gg, 5, none⟩ (.int .u64 an)) W.heap.size (.slice A groups.length c) groups := (gr2).kept fun k cur hk _ => su3.block k (blk_lt hk) (fun e => by subst e; rw [eb2] at hk; simp at hk)
          have eb3 : (((w7.setCell ⟨rb, 3, none⟩ (.int .u64 (R.next + 1))).setCell ⟨gg, 4, none⟩ (.int .i64 ao)).setCell ⟨gg, 5, none⟩ (.int .u64 an)).heap[gg]? = some (.cells #[.string contact, .bool true, .string name, .slice A groups.length c, .int .i64 ao, .int .u64 an, .int .i64 i, .int .u64 m] 54) := blk_set_same (eb2) 5 _
          have su4 : Upd (((w7.setCell ⟨rb, 3, none⟩ (.int .u64 (R.next + 1))).setCell ⟨gg, 4, none⟩ (.int .i64 ao)).setCell ⟨gg, 5, none⟩ (.int .u64 an)).heap.size (fun k => k = gg) (((w7.setCell ⟨rb, 3, none⟩ (.int .u64 (R.next + 1))).setCell ⟨gg, 4, none⟩ (.int .i64 ao)).setCell ⟨gg, 5, none⟩ (.int .u64 an)) ((((w7.setCell ⟨rb, 3, none⟩ (.int .u64 (R.next + 1))).setCell ⟨gg, 4, none⟩ (.int .i64 ao)).setCell ⟨gg, 5, none⟩ (.int .u64 an)).setCell ⟨gg, 6, none⟩ (.int .i64 ai)) := Upd.setCell (ks := fun k => k = gg) (Upd.refl _ _ _) (a := (⟨gg, 6, none⟩ : Addr)) (.inl rfl) _
          have hz4 := RoAtK.upd (hz3) su4 (Nat.le_refl _) nrg nmg (fun k cur hk _ e => by subst e; rw [eb3] at hk; simp at hk)
          have gr4 : Grp ((((w7.setCell ⟨rb, 3, none⟩ (.int .u64 (R.next + 1))).setCell ⟨gg, 4, none⟩ (.int .i64 ao)).setCell ⟨gg, 5, none⟩ (.int .u64 an)).setCell ⟨gg, 6, none⟩ (.int .i64 ai)) W.heap.size (.slice A groups.length c) groups := (gr3).kept fun k cur hk _ => su4.block k (blk_lt hk) (fun e => by subst e; rw [eb3] at hk; simp at hk)
          have eb4 : ((((w7.setCell ⟨rb, 3, none⟩ (.int .u64 (R.next + 1))).setCell ⟨gg, 4, none⟩ (.int .i64 ao)).setCell ⟨gg, 5, none⟩ (.int .u64 an)).setCell ⟨gg, 6, none⟩ (.int .i64 ai)).heap[gg]? = some (.cells #[.string contact, .bool true, .string name, .slice A groups.length c, .int .i64 ao, .int .u64 an, .int .i64 ai, .int .u64 m] 54) := blk_set_same (eb3) 6 _
          have su5 : Upd ((((w7.setCell ⟨rb, 3, none⟩ (.int .u64 (R.next + 1))).setCell ⟨gg, 4, none⟩ (.int .i64 ao)).setCell ⟨gg, 5, none⟩ (.int .u64 an)).setCell ⟨gg, 6, none⟩ (.int .i64 ai)).heap.size (fun k => k = gg) ((((w7.setCell ⟨rb, 3, none⟩ (.int .u64 (R.next + 1))).setCell ⟨gg, 4, none⟩ (.int .i64 ao)).setCell ⟨gg, 5, none⟩ (.int .u64 an)).setCell ⟨gg, 6, none⟩ (.int .i64 ai)) (((((w7.setCell ⟨rb, 3, none⟩ (.int .u64 (R.next + 1))).setCell ⟨gg, 4, none⟩ (.int .i64 ao)).setCell ⟨gg, 5, none⟩ (.int .u64 an)).setCell ⟨gg, 6, none⟩ (.int .i64 ai)).setCell ⟨gg, 7, none⟩ (.int .u64 am)) := Upd.setCell (ks := fun k => k = gg) (Upd.refl _ _ _) (a := (⟨gg, 7, none⟩ : Addr)) (.inl rfl) _
          have hz5 := RoAtK.upd (hz4) su5 (Nat.le_refl _) nrg nmg (fun k cur hk _ e => by subst e; rw [eb4] at hk; simp at hk)
          have gr5 : Grp (((((w7.setCell ⟨rb, 3, none⟩ (.int .u64 (R.next + 1))).setCell ⟨gg, 4, none⟩ (.int .i64 ao)).setCell ⟨gg, 5, none⟩ (.int .u64 an)).setCell ⟨gg, 6, none⟩ (.int .i64 ai)).setCell ⟨gg, 7, none⟩ (.int .u64 am)) W.heap.size (.slice A groups.length c) groups := (gr4).kept fun k cur hk _ => su5.block k (blk_lt hk) (fun e => by subst e; rw [eb4] at hk; simp at hk)
          have eb5 : (((((w7.setCell ⟨rb, 3, none⟩ (.int .u64 (R.next + 1))).setCell ⟨gg, 4, none⟩ (.int .i64 ao)).setCell ⟨gg, 5, none⟩ (.int .u64 an)).setCell ⟨gg, 6, none⟩ (.int .i64 ai)).setCell ⟨gg, 7, none⟩ (.int .u64 am)).heap[gg]? = some (.cells #[.string contact, .bool true, .string name, .slice A groups.length c, .int .i64 ao, .int .u64 an, .int .i64 ai, .int .u64 am] 54) := blk_set_same (eb4) 7 _
          have HS : Upd w7.heap.size (fun k => k = gg ∨ k = rb) w7 (((((w7.setCell ⟨rb, 3, none⟩ (.int .u64 (R.next + 1))).setCell ⟨gg, 4, none⟩ (.int .i64 ao)).setCell ⟨gg, 5, none⟩ (.int .u64 an)).setCell ⟨gg, 6, none⟩ (.int .i64 ai)).setCell ⟨gg, 7, none⟩ (.int .u64 am)) := (Upd.setCell (ks := fun k => k = gg ∨ k = rb) (Upd.setCell (ks := fun k => k = gg ∨ k = rb) (Upd.setCell (ks := fun k => k = gg ∨ k = rb) (Upd.setCell (ks := fun k => k = gg ∨ k = rb) (Upd.setCell (ks := fun k => k = gg ∨ k = rb) (Upd.refl _ _ _) (a := (⟨rb, 3, none⟩ : Addr)) (.inl (.inr rfl)) _) (a := (⟨gg, 4, none⟩ : Addr)) (.inl (.inl rfl)) _) (a := (⟨gg, 5, none⟩ : Addr)) (.inl (.inl rfl)) _) (a := (⟨gg, 6, none⟩ : Addr)) (.inl (.inl rfl)) _) (a := (⟨gg, 7, none⟩ : Addr)) (.inl (.inl rfl)) _)
          have HZ := Lib.hid (And.intro (hz5) (And.intro (eb5) (And.intro (gr5) HS)))
          clear HS hz1 eb1 gr1 hz2 eb2 gr2 hz3 eb3 gr3 hz4 eb4 gr4 hz5 eb5 gr5 su2 su3 su4 su5
          go_wp2_with fail
          generalize hWX : (((((w7.setCell ⟨rb, 3, none⟩ (.int .u64 (R.next + 1))).setCell ⟨gg, 4, none⟩ (.int .i64 ao)).setCell ⟨gg, 5, none⟩ (.int .u64 an)).setCell ⟨gg, 6, none⟩ (.int .i64 ai)).setCell ⟨gg, 7, none⟩ (.int .u64 am)) = WX at HZ ⊢
          clear hWX k2 k0 r3 rz3 x0 xz0 x1 xz1 x2 xz2 x3 xz3 x4 xz4 x5 xz5 x6 xz6 x7 xz7 y0 y1 y2 y3
          refine (rset_any HZ.out.1 (⟨contact, true, name, groups, ⟨ao, an, ai, am⟩⟩ : Ent) _ HZ.out.2.2.1.strs HGL.out.1 HGL.out.2.1 HGL.out.2.2.1 (by have := HGL.out.2.2.2; have := HB7.out.size; have := HZ.out.2.2.2.size; omega)).mono ?_
          rintro e w6 ⟨rfl, hro6, hu6⟩
          have hl1 := blk_lt HX.out.b5
          have BX6 := blk_upd HZ.out.2.1 hu6 (blk_lt HZ.out.2.1) (by rintro (e | e); exact nrg e.symm; exact nmg e.symm)
          have T3 := blk_upd (blk_upd BOX7.out.b3 HZ.out.2.2.2 (blk_lt BOX7.out.b3) (by have := HGB.out; have := HGG.out.1; rintro (e | e) <;> omega)) hu6 (by have := HZ.out.2.2.2.size; have := blk_lt BOX7.out.b3; omega) (by have := HGB.out; rintro (e | e) <;> omega)
          have T4 := blk_upd (blk_upd BOX7.out.b4 HZ.out.2.2.2 (blk_lt BOX7.out.b4) (by have := HGB.out; have := HGG.out.1; rintro (e | e) <;> omega)) hu6 (by have := HZ.out.2.2.2.size; have := blk_lt BOX7.out.b4; omega) (by have := HGB.out; rintro (e | e) <;> omega)
          have T5 := blk_upd (blk_upd BOX7.out.b5 HZ.out.2.2.2 (blk_lt BOX7.out.b5) (by have := HGB.out; have := HGG.out.1; rintro (e | e) <;> omega)) hu6 (by have := HZ.out.2.2.2.size; have := blk_lt BOX7.out.b5; omega) (by have := HGB.out; rintro (e | e) <;> omega)
          have HU6 : Upd W.heap.size (fun k => k = rb ∨ k = mb ∨ k = g + 3 ∨ k = g + 4 ∨ k = g + 5) W w6 := act_upd HB7.out HZ.out.2.2.2 hu6 HGG.out.1
          have HF := Lib.hid (And.intro hro6 (And.intro HU6 (And.intro T3 (And.intro T4 T5))))
          have x1 : w6.cell? ⟨gg, 1, none⟩ = some (.bool true) := blk_cell BX6 1
          have t3 : w6.cell? ⟨g + 3, 0, none⟩ = some (.int .i64 0) := blk_cell T3 0
          have tz3 : w6.frozen? ⟨g + 3, 0, none⟩ = false := blk_frozen T3 0
          have t4 : w6.cell? ⟨g + 4, 0, none⟩ = some (.int .u64 0) := blk_cell T4 0
          have tz4 : w6.frozen? ⟨g + 4, 0, none⟩ = false := blk_frozen T4 0
          have t5 : w6.cell? ⟨g + 5, 0, none⟩ = some (.bool false) := blk_cell T5 0
          have tz5 : w6.frozen? ⟨g + 5, 0, none⟩ = false := blk_frozen T5 0
          clear hro6 hu6 BX6 T3 T4 T5 HU6 HZ
          go_wp2_with fail
          go_region
          all_goals
            go_wp2_with fail
            go_end0
            rw [HRS.out]
            exact ⟨rfl, act_fin HF.out.1 HF.out.2.1 HGB.out HF.out.2.2.1 HF.out.2.2.2.1 HF.out.2.2.2.2 _ _ _⟩
      by_cases hk12 : k = 12
      · subst hk12
        cases hkept : kept
        · by_cases hroom : (R.kept : Int) < R.items
          · have hres : RES = .ok ((R : RS).set ⟨contact, true, name, groups, ⟨ao, an, ai, am⟩⟩, am2, an2, true) := by rw [← HRES.out.1, RS.act_do HRES.out.2.1 HRES.out.2.2.1 HRES.out.2.2.2.1 (by decide) HRES.out.2.2.2.2 hm (by rw [hkept]; simpa using hroom), hkept]; rfl
            have hm1 : (am2 == 0) = false := by simpa using hm
            have HRS := Lib.hid hres
            clear hres hm HRES
            clear d1 d2 HKD
            subst hkept
            have HB2 := Lib.hid ((HIT2.out.1).trans (hb2.mono HIT2.out.1.size))
            have BOX2 := Lib.hid (BOX.out.below hb2)
            have RO2 := Lib.hid (RO.out.below hb2)
            have EB2 := Lib.hid (blk_below HIT2.out.2.2.1 hb2 (blk_lt HIT2.out.2.2.1))
            have GR2 := Lib.hid (HIT2.out.2.2.2.kept fun k cur hk _ => hb2.block k (blk_lt hk))
            have HBH2 := Lib.hid hbh
            have HGG := Lib.hid (And.intro HIT2.out.2.1 (Nat.le_trans HIT2.out.1.size hg2))
            have hne2 : gg ≠ g2 := by have := blk_lt HIT2.out.2.2.1; omega
            have HNE2 := Lib.hid hne2
            clear hb2 hbh hg2 hne2 BOX RO HIT2 lt1 lt2 lt3 lt4 r3 k2 k0 e4 e5 e6 e7
            have k2 : wc.cell? ⟨g + 2, 0, none⟩ = some (.int .i64 12) := blk_cell BOX2.out.b2 0
            have k0 : wc.cell? ⟨g, 0, none⟩ = some (.pointer (some ⟨rb, 0, none⟩)) := blk_cell BOX2.out.b0 0
            obtain ⟨x0, x1, x2, x3, x4, x5, x6, x7, xz0, xz1, xz2, xz3, xz4, xz5, xz6, xz7⟩ := cells8 (EB2.out)
            go_wp2_with fail
            refine (room_new RO2.out (⟨contact, false, name, groups, ⟨o, hn', i, m⟩⟩ : Ent) _ rfl hroom).mono ?_
            rintro e w5 ⟨rfl, hb5⟩
            have HB5 := Lib.hid (HB2.out.trans (hb5.mono HB2.out.size))
            have BOX5 := Lib.hid (BOX2.out.below hb5)
            have RO5 := Lib.hid (RO2.out.below hb5)
            have EB5 := Lib.hid (blk_below EB2.out hb5 (blk_lt EB2.out))
            have GR5 := Lib.hid (GR2.out.kept fun k cur hk _ => hb5.block k (blk_lt hk))
            have HBH5 := Lib.hid (blk_below HBH2.out hb5 (blk_lt HBH2.out))
            clear hb5 HB2 BOX2 RO2 EB2 GR2 HBH2 k2 k0 x0 xz0 x1 xz1 x2 xz2 x3 xz3 x4 xz4 x5 xz5 x6 xz6 x7 xz7
            have k2 : w5.cell? ⟨g + 2, 0, none⟩ = some (.int .i64 12) := blk_cell BOX5.out.b2 0
            have k0 : w5.cell? ⟨g, 0, none⟩ = some (.pointer (some ⟨rb, 0, none⟩)) := blk_cell BOX5.out.b0 0
            obtain ⟨x0, x1, x2, x3, x4, x5, x6, x7, xz0, xz1, xz2, xz3, xz4, xz5, xz6, xz7⟩ := cells8 (EB5.out)
            obtain ⟨y0, y1, y2, y3, _, _, _, _⟩ := cells4 (HBH5.out)
            have r3 : w5.cell? ⟨rb, 3, none⟩ = some (.int .u64 R.next) := blk_cell RO5.out.cells 3
            have rz3 : w5.frozen? ⟨rb, 3, none⟩ = false := blk_frozen RO5.out.cells 3
            have rlt := RO5.out.lt
            have hl5 := blk_lt HX.out.b5
            have ne_ggg2 : ¬ gg = g2 := by have := HGG.out; have := HGB.out; have := HNE2.out; omega
            have ne2_ggg2 : ¬ g2 = gg := fun e => ne_ggg2 e.symm
            have ne3_ggg2 : (gg == g2) = false := by simpa using ne_ggg2
            have ne_rbg2 : ¬ rb = g2 := by have := HGG.out; have := HGB.out; have := HNE2.out; omega
            have ne2_rbg2 : ¬ g2 = rb := fun e => ne_rbg2 e.symm
            have ne3_rbg2 : (rb == g2) = false := by simpa using ne_rbg2
            have ne_ggg : ¬ g = gg := by have := HGG.out; have := HGB.out; have := HNE2.out; omega
            have ne2_ggg : ¬ gg = g := fun e => ne_ggg e.symm
            have ne3_ggg : (g == gg) = false := by simpa using ne_ggg
            have ne_gp2gg : ¬ g + 2 = gg := by have := HGG.out; have := HGB.out; have := HNE2.out; omega
            have ne2_gp2gg : ¬ gg = g + 2 := fun e => ne_gp2gg e.symm
            have ne3_gp2gg : (g + 2 == gg) = false := by simpa using ne_gp2gg
            have ne_rbgg : ¬ rb = gg := by have := HGG.out; have := HGB.out; have := HNE2.out; omega
            have ne2_rbgg : ¬ gg = rb := fun e => ne_rbgg e.symm
            have ne3_rbgg : (rb == gg) = false := by simpa using ne_rbgg
            have ne_rbg : ¬ rb = g := by have := HGG.out; have := HGB.out; have := HNE2.out; omega
            have ne2_rbg : ¬ g = rb := fun e => ne_rbg e.symm
            have ne3_rbg : (rb == g) = false := by simpa using ne_rbg
            have ne_rbgp2 : ¬ rb = g + 2 := by have := HGG.out; have := HGB.out; have := HNE2.out; omega
            have ne2_rbgp2 : ¬ g + 2 = rb := fun e => ne_rbgp2 e.symm
            have ne3_rbgp2 : (rb == g + 2) = false := by simpa using ne_rbgp2
            have nrg : rb ≠ gg := by have := HGG.out.1; have := HGB.out; omega
            have nmg : mb ≠ gg := by have := HGG.out.1; have := HGB.out; omega
            have su1 : Upd w5.heap.size (fun k => k = gg) w5 (w5.setCell ⟨gg, 1, none⟩ (.bool true)) := Upd.setCell (ks := fun k => k = gg) (Upd.refl _ _ _) (a := (⟨gg, 1, none⟩ : Addr)) (.inl rfl) _
            have hz1 := RoAtK.upd (RO5.out) su1 (Nat.le_refl _) nrg nmg (fun k cur hk _ e => by subst e; rw [EB5.out] at hk; simp at hk)
            have gr1 : Grp (w5.setCell ⟨gg, 1, none⟩ (.bool true)) W.heap.size (.slice A groups.length c) groups := (GR5.out).kept fun k cur hk _ => su1.block k (blk_lt hk) (fun e => by subst e; rw [EB5.out] at hk; simp at hk)
            have eb1 : (w5.setCell ⟨gg, 1, none⟩ (.bool true)).heap[gg]? = some (.cells #[.string contact, .bool true, .string name, .slice A groups.length c, .int .i64 o, .int .u64 hn', .int .i64 i, .int .u64 m] 54) := blk_set_same (EB5.out) 1 _
            have su2 : Upd (w5.setCell ⟨gg, 1, none⟩ (.bool true)).heap.size (fun k => k = gg) (w5.setCell ⟨gg, 1, none⟩ (.bool true)) ((w5.setCell ⟨gg, 1, none⟩ (.bool true)).setCell ⟨gg, 4, none⟩ (.int .i64 ao)) := Upd.setCell (ks := fun k => k = gg) (Upd.refl _ _ _) (a := (⟨gg, 4, none⟩ : Addr)) (.inl rfl) _
            have hz2 := RoAtK.upd (hz1) su2 (Nat.le_refl _) nrg nmg (fun k cur hk _ e => by subst e; rw [eb1] at hk; simp at hk)
            have gr2 : Grp ((w5.setCell ⟨gg, 1, none⟩ (.bool true)).setCell ⟨gg, 4, none⟩ (.int .i64 ao)) W.heap.size (.slice A groups.length c) groups := (gr1).kept fun k cur hk _ => su2.block k (blk_lt hk) (fun e => by subst e; rw [eb1] at hk; simp at hk)
            have eb2 : ((w5.setCell ⟨gg, 1, none⟩ (.bool true)).setCell ⟨gg, 4, none⟩ (.int .i64 ao)).heap[gg]? = some (.cells #[.string contact, .bool true, .string name, .slice A groups.length c, .int .i64 ao, .int .u64 hn', .int .i64 i, .int .u64 m] 54) := blk_set_same (eb1) 4 _
            have su3 : Upd ((w5.setCell ⟨gg, 1, none⟩ (.bool true)).setCell ⟨gg, 4, none⟩ (.int .i64 ao)).heap.size (fun k => k = gg) ((w5.setCell ⟨gg, 1, none⟩ (.bool true)).setCell ⟨gg, 4, none⟩ (.int .i64 ao)) (((w5.setCell ⟨gg, 1, none⟩ (.bool true)).setCell ⟨gg, 4, none⟩ (.int .i64 ao)).setCell ⟨gg, 5, none⟩ (.int .u64 an)) := Upd.setCell (ks := fun k => k = gg) (Upd.refl _ _ _) (a := (⟨gg, 5, none⟩ : Addr)) (.inl rfl) _
            have hz3 := RoAtK.upd (hz2) su3 (Nat.le_refl _) nrg nmg (fun k cur hk _ e => by subst e; rw [eb2] at hk; simp at hk)
            have gr3 : Grp (((w5.setCell ⟨gg, 1, none⟩ (.bool true)).setCell ⟨gg, 4, none⟩ (.int .i64 ao)).setCell ⟨gg, 5, none⟩ (.int .u64 an)) W.heap.size (.slice A groups.length c) groups := (gr2).kept fun k cur hk _ => su3.block k (blk_lt hk) (fun e => by subst e; rw [eb2] at hk; simp at hk)
            have eb3 : (((w5.setCell ⟨gg, 1, none⟩ (.bool true)).setCell ⟨gg, 4, none⟩ (.int .i64 ao)).setCell ⟨gg, 5, none⟩ (.int .u64 an)).heap[gg]? = some (.cells #[.string contact, .bool true, .string name, .slice A groups.length c, .int .i64 ao, .int .u64 an, .int .i64 i, .int .u64 m] 54) := blk_set_same (eb2) 5 _
            have su4 : Upd (((w5.setCell ⟨gg, 1, none⟩ (.bool true)).setCell ⟨gg, 4, none⟩ (.int .i64 ao)).setCell ⟨gg, 5, none⟩ (.int .u64 an)).heap.size (fun k => k = gg) (((w5.setCell ⟨gg, 1, none⟩ (.bool true)).setCell ⟨gg, 4, none⟩ (.int .i64 ao)).setCell ⟨gg, 5, none⟩ (.int .u64 an)) ((((w5.setCell ⟨gg, 1, none⟩ (.bool true)).setCell ⟨gg, 4, none⟩ (.int .i64 ao)).setCell ⟨gg, 5, none⟩ (.int .u64 an)).setCell ⟨gg, 6, none⟩ (.int .i64 ai)) := Upd.setCell (ks := fun k => k = gg) (Upd.refl _ _ _) (a := (⟨gg, 6, none⟩ : Addr)) (.inl rfl) _
            have hz4 := RoAtK.upd (hz3) su4 (Nat.le_refl _) nrg nmg (fun k cur hk _ e => by subst e; rw [eb3] at hk; simp at hk)
            have gr4 : Grp ((((w5.setCell ⟨gg, 1, none⟩ (.bool true)).setCell ⟨gg, 4, none⟩ (.int .i64 ao)).setCell ⟨gg, 5, none⟩ (.int .u64 an)).setCell ⟨gg, 6, none⟩ (.int .i64 ai)) W.heap.size (.slice A groups.length c) groups := (gr3).kept fun k cur hk _ => su4.block k (blk_lt hk) (fun e => by subst e; rw [eb3] at hk; simp at hk)
            have eb4 : ((((w5.setCell ⟨gg, 1, none⟩ (.bool true)).setCell ⟨gg, 4, none⟩ (.int .i64 ao)).setCell ⟨gg, 5, none⟩ (.int .u64 an)).setCell ⟨gg, 6, none⟩ (.int .i64 ai)).heap[gg]? = some (.cells #[.string contact, .bool true, .string name, .slice A groups.length c, .int .i64 ao, .int .u64 an, .int .i64 ai, .int .u64 m] 54) := blk_set_same (eb3) 6 _
            have su5 : Upd ((((w5.setCell ⟨gg, 1, none⟩ (.bool true)).setCell ⟨gg, 4, none⟩ (.int .i64 ao)).setCell ⟨gg, 5, none⟩ (.int .u64 an)).setCell ⟨gg, 6, none⟩ (.int .i64 ai)).heap.size (fun k => k = gg) ((((w5.setCell ⟨gg, 1, none⟩ (.bool true)).setCell ⟨gg, 4, none⟩ (.int .i64 ao)).setCell ⟨gg, 5, none⟩ (.int .u64 an)).setCell ⟨gg, 6, none⟩ (.int .i64 ai)) (((((w5.setCell ⟨gg, 1, none⟩ (.bool true)).setCell ⟨gg, 4, none⟩ (.int .i64 ao)).setCell ⟨gg, 5, none⟩ (.int .u64 an)).setCell ⟨gg, 6, none⟩ (.int .i64 ai)).setCell ⟨gg, 7, none⟩ (.int .u64 am)) := Upd.setCell (ks := fun k => k = gg) (Upd.refl _ _ _) (a := (⟨gg, 7, none⟩ : Addr)) (.inl rfl) _
            have hz5 := RoAtK.upd (hz4) su5 (Nat.le_refl _) nrg nmg (fun k cur hk _ e => by subst e; rw [eb4] at hk; simp at hk)
            have gr5 : Grp (((((w5.setCell ⟨gg, 1, none⟩ (.bool true)).setCell ⟨gg, 4, none⟩ (.int .i64 ao)).setCell ⟨gg, 5, none⟩ (.int .u64 an)).setCell ⟨gg, 6, none⟩ (.int .i64 ai)).setCell ⟨gg, 7, none⟩ (.int .u64 am)) W.heap.size (.slice A groups.length c) groups := (gr4).kept fun k cur hk _ => su5.block k (blk_lt hk) (fun e => by subst e; rw [eb4] at hk; simp at hk)
            have eb5 : (((((w5.setCell ⟨gg, 1, none⟩ (.bool true)).setCell ⟨gg, 4, none⟩ (.int .i64 ao)).setCell ⟨gg, 5, none⟩ (.int .u64 an)).setCell ⟨gg, 6, none⟩ (.int .i64 ai)).setCell ⟨gg, 7, none⟩ (.int .u64 am)).heap[gg]? = some (.cells #[.string contact, .bool true, .string name, .slice A groups.length c, .int .i64 ao, .int .u64 an, .int .i64 ai, .int .u64 am] 54) := blk_set_same (eb4) 7 _
            have HS : Upd w5.heap.size (fun k => k = gg ∨ k = rb) w5 (((((w5.setCell ⟨gg, 1, none⟩ (.bool true)).setCell ⟨gg, 4, none⟩ (.int .i64 ao)).setCell ⟨gg, 5, none⟩ (.int .u64 an)).setCell ⟨gg, 6, none⟩ (.int .i64 ai)).setCell ⟨gg, 7, none⟩ (.int .u64 am)) := (Upd.setCell (ks := fun k => k = gg ∨ k = rb) (Upd.setCell (ks := fun k => k = gg ∨ k = rb) (Upd.setCell (ks := fun k => k = gg ∨ k = rb) (Upd.setCell (ks := fun k => k = gg ∨ k = rb) (Upd.setCell (ks := fun k => k = gg ∨ k = rb) (Upd.refl _ _ _) (a := (⟨gg, 1, none⟩ : Addr)) (.inl (.inl rfl)) _) (a := (⟨gg, 4, none⟩ : Addr)) (.inl (.inl rfl)) _) (a := (⟨gg, 5, none⟩ : Addr)) (.inl (.inl rfl)) _) (a := (⟨gg, 6, none⟩ : Addr)) (.inl (.inl rfl)) _) (a := (⟨gg, 7, none⟩ : Addr)) (.inl (.inl rfl)) _)
            have HZ := Lib.hid (And.intro (hz5) (And.intro (eb5) (And.intro (gr5) HS)))
            clear HS hz1 eb1 gr1 hz2 eb2 gr2 hz3 eb3 gr3 hz4 eb4 gr4 hz5 eb5 gr5 su1 su2 su3 su4 su5
            go_wp2_with fail
            generalize hWX : (((((w5.setCell ⟨gg, 1, none⟩ (.bool true)).setCell ⟨gg, 4, none⟩ (.int .i64 ao)).setCell ⟨gg, 5, none⟩ (.int .u64 an)).setCell ⟨gg, 6, none⟩ (.int .i64 ai)).setCell ⟨gg, 7, none⟩ (.int .u64 am)) = WX at HZ ⊢
            clear hWX k2 k0 r3 rz3 x0 xz0 x1 xz1 x2 xz2 x3 xz3 x4 xz4 x5 xz5 x6 xz6 x7 xz7 y0 y1 y2 y3
            refine (rset_any HZ.out.1 (⟨contact, true, name, groups, ⟨ao, an, ai, am⟩⟩ : Ent) _ HZ.out.2.2.1.strs HGL.out.1 HGL.out.2.1 HGL.out.2.2.1 (by have := HGL.out.2.2.2; have := HB5.out.size; have := HZ.out.2.2.2.size; omega)).mono ?_
            rintro e w6 ⟨rfl, hro6, hu6⟩
            have hl1 := blk_lt HX.out.b5
            have BX6 := blk_upd HZ.out.2.1 hu6 (blk_lt HZ.out.2.1) (by rintro (e | e); exact nrg e.symm; exact nmg e.symm)
            have T3 := blk_upd (blk_upd BOX5.out.b3 HZ.out.2.2.2 (blk_lt BOX5.out.b3) (by have := HGB.out; have := HGG.out.1; rintro (e | e) <;> omega)) hu6 (by have := HZ.out.2.2.2.size; have := blk_lt BOX5.out.b3; omega) (by have := HGB.out; rintro (e | e) <;> omega)
            have T4 := blk_upd (blk_upd BOX5.out.b4 HZ.out.2.2.2 (blk_lt BOX5.out.b4) (by have := HGB.out; have := HGG.out.1; rintro (e | e) <;> omega)) hu6 (by have := HZ.out.2.2.2.size; have := blk_lt BOX5.out.b4; omega) (by have := HGB.out; rintro (e | e) <;> omega)
            have T5 := blk_upd (blk_upd BOX5.out.b5 HZ.out.2.2.2 (blk_lt BOX5.out.b5) (by have := HGB.out; have := HGG.out.1; rintro (e | e) <;> omega)) hu6 (by have := HZ.out.2.2.2.size; have := blk_lt BOX5.out.b5; omega) (by have := HGB.out; rintro (e | e) <;> omega)
            have HU6 : Upd W.heap.size (fun k => k = rb ∨ k = mb ∨ k = g + 3 ∨ k = g + 4 ∨ k = g + 5) W w6 := act_upd HB5.out HZ.out.2.2.2 hu6 HGG.out.1
            have HF := Lib.hid (And.intro hro6 (And.intro HU6 (And.intro T3 (And.intro T4 T5))))
            have x1 : w6.cell? ⟨gg, 1, none⟩ = some (.bool true) := blk_cell BX6 1
            have t3 : w6.cell? ⟨g + 3, 0, none⟩ = some (.int .i64 0) := blk_cell T3 0
            have tz3 : w6.frozen? ⟨g + 3, 0, none⟩ = false := blk_frozen T3 0
            have t4 : w6.cell? ⟨g + 4, 0, none⟩ = some (.int .u64 0) := blk_cell T4 0
            have tz4 : w6.frozen? ⟨g + 4, 0, none⟩ = false := blk_frozen T4 0
            have t5 : w6.cell? ⟨g + 5, 0, none⟩ = some (.bool false) := blk_cell T5 0
            have tz5 : w6.frozen? ⟨g + 5, 0, none⟩ = false := blk_frozen T5 0
            clear hro6 hu6 BX6 T3 T4 T5 HU6 HZ
            go_wp2_with fail
            go_region
            all_goals
              go_wp2_with fail
              go_end0
              rw [HRS.out]
              exact ⟨rfl, act_fin HF.out.1 HF.out.2.1 HGB.out HF.out.2.2.1 HF.out.2.2.2.1 HF.out.2.2.2.2 _ _ _⟩
          · have hres : RES = .error 8 := HRES.out.1.symm.trans (RS.act_full HRES.out.2.1 HRES.out.2.2.1 HRES.out.2.2.2.1 (by decide) HRES.out.2.2.2.2 hm (by decide) hkept hroom)
            have hm1 : (am2 == 0) = false := by simpa using hm
            have HRS := Lib.hid hres
            clear hres hm HRES
            clear d1 d2 HKD
            subst hkept
            have HB2 := Lib.hid ((HIT2.out.1).trans (hb2.mono HIT2.out.1.size))
            have BOX2 := Lib.hid (BOX.out.below hb2)
            have RO2 := Lib.hid (RO.out.below hb2)
            have EB2 := Lib.hid (blk_below HIT2.out.2.2.1 hb2 (blk_lt HIT2.out.2.2.1))
            have GR2 := Lib.hid (HIT2.out.2.2.2.kept fun k cur hk _ => hb2.block k (blk_lt hk))
            have HBH2 := Lib.hid hbh
            have HGG := Lib.hid (And.intro HIT2.out.2.1 (Nat.le_trans HIT2.out.1.size hg2))
            have hne2 : gg ≠ g2 := by have := blk_lt HIT2.out.2.2.1; omega
            have HNE2 := Lib.hid hne2
            clear hb2 hbh hg2 hne2 BOX RO HIT2 lt1 lt2 lt3 lt4 r3 k2 k0 e4 e5 e6 e7
            have k2 : wc.cell? ⟨g + 2, 0, none⟩ = some (.int .i64 12) := blk_cell BOX2.out.b2 0
            have k0 : wc.cell? ⟨g, 0, none⟩ = some (.pointer (some ⟨rb, 0, none⟩)) := blk_cell BOX2.out.b0 0
            obtain ⟨x0, x1, x2, x3, x4, x5, x6, x7, xz0, xz1, xz2, xz3, xz4, xz5, xz6, xz7⟩ := cells8 (EB2.out)
            go_wp2_with fail
            refine (room_full RO2.out (⟨contact, false, name, groups, ⟨o, hn', i, m⟩⟩ : Ent) _ rfl (by omega)).mono ?_
            rintro e w5 ⟨rfl, hb5⟩
            go_wp2_with fail
            rw [HRS.out]
            exact ⟨rfl, rfl, HB2.out.trans (hb5.mono HB2.out.size)⟩
        · have hres : RES = .ok ((R : RS).set ⟨contact, true, name, groups, ⟨ao, an, ai, am⟩⟩, am2, an2, true) := by rw [← HRES.out.1, RS.act_do HRES.out.2.1 HRES.out.2.2.1 HRES.out.2.2.2.1 (by decide) HRES.out.2.2.2.2 hm (by rw [hkept]; simp), hkept]; rfl
          have hm1 : (am2 == 0) = false := by simpa using hm
          have HRS := Lib.hid hres
          clear hres hm HRES
          clear d1 d2 HKD
          subst hkept
          have HB2 := Lib.hid ((HIT2.out.1).trans (hb2.mono HIT2.out.1.size))
          have BOX2 := Lib.hid (BOX.out.below hb2)
          have RO2 := Lib.hid (RO.out.below hb2)
          have EB2 := Lib.hid (blk_below HIT2.out.2.2.1 hb2 (blk_lt HIT2.out.2.2.1))
          have GR2 := Lib.hid (HIT2.out.2.2.2.kept fun k cur hk _ => hb2.block k (blk_lt hk))
          have HBH2 := Lib.hid hbh
          have HGG := Lib.hid (And.intro HIT2.out.2.1 (Nat.le_trans HIT2.out.1.size hg2))
          have hne2 : gg ≠ g2 := by have := blk_lt HIT2.out.2.2.1; omega
          have HNE2 := Lib.hid hne2
          clear hb2 hbh hg2 hne2 BOX RO HIT2 lt1 lt2 lt3 lt4 r3 k2 k0 e4 e5 e6 e7
          have k2 : wc.cell? ⟨g + 2, 0, none⟩ = some (.int .i64 12) := blk_cell BOX2.out.b2 0
          have k0 : wc.cell? ⟨g, 0, none⟩ = some (.pointer (some ⟨rb, 0, none⟩)) := blk_cell BOX2.out.b0 0
          obtain ⟨x0, x1, x2, x3, x4, x5, x6, x7, xz0, xz1, xz2, xz3, xz4, xz5, xz6, xz7⟩ := cells8 (EB2.out)
          go_wp2_with fail
          refine (room_kept RO2.out (⟨contact, true, name, groups, ⟨o, hn', i, m⟩⟩ : Ent) _ rfl).mono ?_
          rintro e w5 ⟨rfl, hb5⟩
          have HB5 := Lib.hid (HB2.out.trans (hb5.mono HB2.out.size))
          have BOX5 := Lib.hid (BOX2.out.below hb5)
          have RO5 := Lib.hid (RO2.out.below hb5)
          have EB5 := Lib.hid (blk_below EB2.out hb5 (blk_lt EB2.out))
          have GR5 := Lib.hid (GR2.out.kept fun k cur hk _ => hb5.block k (blk_lt hk))
          have HBH5 := Lib.hid (blk_below HBH2.out hb5 (blk_lt HBH2.out))
          clear hb5 HB2 BOX2 RO2 EB2 GR2 HBH2 k2 k0 x0 xz0 x1 xz1 x2 xz2 x3 xz3 x4 xz4 x5 xz5 x6 xz6 x7 xz7
          have k2 : w5.cell? ⟨g + 2, 0, none⟩ = some (.int .i64 12) := blk_cell BOX5.out.b2 0
          have k0 : w5.cell? ⟨g, 0, none⟩ = some (.pointer (some ⟨rb, 0, none⟩)) := blk_cell BOX5.out.b0 0
          obtain ⟨x0, x1, x2, x3, x4, x5, x6, x7, xz0, xz1, xz2, xz3, xz4, xz5, xz6, xz7⟩ := cells8 (EB5.out)
          obtain ⟨y0, y1, y2, y3, _, _, _, _⟩ := cells4 (HBH5.out)
          have r3 : w5.cell? ⟨rb, 3, none⟩ = some (.int .u64 R.next) := blk_cell RO5.out.cells 3
          have rz3 : w5.frozen? ⟨rb, 3, none⟩ = false := blk_frozen RO5.out.cells 3
          have rlt := RO5.out.lt
          have hl5 := blk_lt HX.out.b5
          have ne_ggg2 : ¬ gg = g2 := by have := HGG.out; have := HGB.out; have := HNE2.out; omega
          have ne2_ggg2 : ¬ g2 = gg := fun e => ne_ggg2 e.symm
          have ne3_ggg2 : (gg == g2) = false := by simpa using ne_ggg2
          have ne_rbg2 : ¬ rb = g2 := by have := HGG.out; have := HGB.out; have := HNE2.out; omega
          have ne2_rbg2 : ¬ g2 = rb := fun e => ne_rbg2 e.symm
          have ne3_rbg2 : (rb == g2) = false := by simpa using ne_rbg2
          have ne_ggg : ¬ g = gg := by have := HGG.out; have := HGB.out; have := HNE2.out; omega
          have ne2_ggg : ¬ gg = g := fun e => ne_ggg e.symm
          have ne3_ggg : (g == gg) = false := by simpa using ne_ggg
          have ne_gp2gg : ¬ g + 2 = gg := by have := HGG.out; have := HGB.out; have := HNE2.out; omega
          have ne2_gp2gg : ¬ gg = g + 2 := fun e => ne_gp2gg e.symm
          have ne3_gp2gg : (g + 2 == gg) = false := by simpa using ne_gp2gg
          have ne_rbgg : ¬ rb = gg := by have := HGG.out; have := HGB.out; have := HNE2.out; omega
          have ne2_rbgg : ¬ gg = rb := fun e => ne_rbgg e.symm
          have ne3_rbgg : (rb == gg) = false := by simpa using ne_rbgg
          have ne_rbg : ¬ rb = g := by have := HGG.out; have := HGB.out; have := HNE2.out; omega
          have ne2_rbg : ¬ g = rb := fun e => ne_rbg e.symm
          have ne3_rbg : (rb == g) = false := by simpa using ne_rbg
          have ne_rbgp2 : ¬ rb = g + 2 := by have := HGG.out; have := HGB.out; have := HNE2.out; omega
          have ne2_rbgp2 : ¬ g + 2 = rb := fun e => ne_rbgp2 e.symm
          have ne3_rbgp2 : (rb == g + 2) = false := by simpa using ne_rbgp2
          have nrg : rb ≠ gg := by have := HGG.out.1; have := HGB.out; omega
          have nmg : mb ≠ gg := by have := HGG.out.1; have := HGB.out; omega
          have su1 : Upd w5.heap.size (fun k => k = gg) w5 (w5.setCell ⟨gg, 1, none⟩ (.bool true)) := Upd.setCell (ks := fun k => k = gg) (Upd.refl _ _ _) (a := (⟨gg, 1, none⟩ : Addr)) (.inl rfl) _
          have hz1 := RoAtK.upd (RO5.out) su1 (Nat.le_refl _) nrg nmg (fun k cur hk _ e => by subst e; rw [EB5.out] at hk; simp at hk)
          have gr1 : Grp (w5.setCell ⟨gg, 1, none⟩ (.bool true)) W.heap.size (.slice A groups.length c) groups := (GR5.out).kept fun k cur hk _ => su1.block k (blk_lt hk) (fun e => by subst e; rw [EB5.out] at hk; simp at hk)
          have eb1 : (w5.setCell ⟨gg, 1, none⟩ (.bool true)).heap[gg]? = some (.cells #[.string contact, .bool true, .string name, .slice A groups.length c, .int .i64 o, .int .u64 hn', .int .i64 i, .int .u64 m] 54) := blk_set_same (EB5.out) 1 _
          have su2 : Upd (w5.setCell ⟨gg, 1, none⟩ (.bool true)).heap.size (fun k => k = gg) (w5.setCell ⟨gg, 1, none⟩ (.bool true)) ((w5.setCell ⟨gg, 1, none⟩ (.bool true)).setCell ⟨gg, 4, none⟩ (.int .i64 ao)) := Upd.setCell (ks := fun k => k = gg) (Upd.refl _ _ _) (a := (⟨gg, 4, none⟩ : Addr)) (.inl rfl) _
          have hz2 := RoAtK.upd (hz1) su2 (Nat.le_refl _) nrg nmg (fun k cur hk _ e => by subst e; rw [eb1] at hk; simp at hk)
          have gr2 : Grp ((w5.setCell ⟨gg, 1, none⟩ (.bool true)).setCell ⟨gg, 4, none⟩ (.int .i64 ao)) W.heap.size (.slice A groups.length c) groups := (gr1).kept fun k cur hk _ => su2.block k (blk_lt hk) (fun e => by subst e; rw [eb1] at hk; simp at hk)
          have eb2 : ((w5.setCell ⟨gg, 1, none⟩ (.bool true)).setCell ⟨gg, 4, none⟩ (.int .i64 ao)).heap[gg]? = some (.cells #[.string contact, .bool true, .string name, .slice A groups.length c, .int .i64 ao, .int .u64 hn', .int .i64 i, .int .u64 m] 54) := blk_set_same (eb1) 4 _
          have su3 : Upd ((w5.setCell ⟨gg, 1, none⟩ (.bool true)).setCell ⟨gg, 4, none⟩ (.int .i64 ao)).heap.size (fun k => k = gg) ((w5.setCell ⟨gg, 1, none⟩ (.bool true)).setCell ⟨gg, 4, none⟩ (.int .i64 ao)) (((w5.setCell ⟨gg, 1, none⟩ (.bool true)).setCell ⟨gg, 4, none⟩ (.int .i64 ao)).setCell ⟨gg, 5, none⟩ (.int .u64 an)) := Upd.setCell (ks := fun k => k = gg) (Upd.refl _ _ _) (a := (⟨gg, 5, none⟩ : Addr)) (.inl rfl) _
          have hz3 := RoAtK.upd (hz2) su3 (Nat.le_refl _) nrg nmg (fun k cur hk _ e => by subst e; rw [eb2] at hk; simp at hk)
          have gr3 : Grp (((w5.setCell ⟨gg, 1, none⟩ (.bool true)).setCell ⟨gg, 4, none⟩ (.int .i64 ao)).setCell ⟨gg, 5, none⟩ (.int .u64 an)) W.heap.size (.slice A groups.length c) groups := (gr2).kept fun k cur hk _ => su3.block k (blk_lt hk) (fun e => by subst e; rw [eb2] at hk; simp at hk)
          have eb3 : (((w5.setCell ⟨gg, 1, none⟩ (.bool true)).setCell ⟨gg, 4, none⟩ (.int .i64 ao)).setCell ⟨gg, 5, none⟩ (.int .u64 an)).heap[gg]? = some (.cells #[.string contact, .bool true, .string name, .slice A groups.length c, .int .i64 ao, .int .u64 an, .int .i64 i, .int .u64 m] 54) := blk_set_same (eb2) 5 _
          have su4 : Upd (((w5.setCell ⟨gg, 1, none⟩ (.bool true)).setCell ⟨gg, 4, none⟩ (.int .i64 ao)).setCell ⟨gg, 5, none⟩ (.int .u64 an)).heap.size (fun k => k = gg) (((w5.setCell ⟨gg, 1, none⟩ (.bool true)).setCell ⟨gg, 4, none⟩ (.int .i64 ao)).setCell ⟨gg, 5, none⟩ (.int .u64 an)) ((((w5.setCell ⟨gg, 1, none⟩ (.bool true)).setCell ⟨gg, 4, none⟩ (.int .i64 ao)).setCell ⟨gg, 5, none⟩ (.int .u64 an)).setCell ⟨gg, 6, none⟩ (.int .i64 ai)) := Upd.setCell (ks := fun k => k = gg) (Upd.refl _ _ _) (a := (⟨gg, 6, none⟩ : Addr)) (.inl rfl) _
          have hz4 := RoAtK.upd (hz3) su4 (Nat.le_refl _) nrg nmg (fun k cur hk _ e => by subst e; rw [eb3] at hk; simp at hk)
          have gr4 : Grp ((((w5.setCell ⟨gg, 1, none⟩ (.bool true)).setCell ⟨gg, 4, none⟩ (.int .i64 ao)).setCell ⟨gg, 5, none⟩ (.int .u64 an)).setCell ⟨gg, 6, none⟩ (.int .i64 ai)) W.heap.size (.slice A groups.length c) groups := (gr3).kept fun k cur hk _ => su4.block k (blk_lt hk) (fun e => by subst e; rw [eb3] at hk; simp at hk)
          have eb4 : ((((w5.setCell ⟨gg, 1, none⟩ (.bool true)).setCell ⟨gg, 4, none⟩ (.int .i64 ao)).setCell ⟨gg, 5, none⟩ (.int .u64 an)).setCell ⟨gg, 6, none⟩ (.int .i64 ai)).heap[gg]? = some (.cells #[.string contact, .bool true, .string name, .slice A groups.length c, .int .i64 ao, .int .u64 an, .int .i64 ai, .int .u64 m] 54) := blk_set_same (eb3) 6 _
          have su5 : Upd ((((w5.setCell ⟨gg, 1, none⟩ (.bool true)).setCell ⟨gg, 4, none⟩ (.int .i64 ao)).setCell ⟨gg, 5, none⟩ (.int .u64 an)).setCell ⟨gg, 6, none⟩ (.int .i64 ai)).heap.size (fun k => k = gg) ((((w5.setCell ⟨gg, 1, none⟩ (.bool true)).setCell ⟨gg, 4, none⟩ (.int .i64 ao)).setCell ⟨gg, 5, none⟩ (.int .u64 an)).setCell ⟨gg, 6, none⟩ (.int .i64 ai)) (((((w5.setCell ⟨gg, 1, none⟩ (.bool true)).setCell ⟨gg, 4, none⟩ (.int .i64 ao)).setCell ⟨gg, 5, none⟩ (.int .u64 an)).setCell ⟨gg, 6, none⟩ (.int .i64 ai)).setCell ⟨gg, 7, none⟩ (.int .u64 am)) := Upd.setCell (ks := fun k => k = gg) (Upd.refl _ _ _) (a := (⟨gg, 7, none⟩ : Addr)) (.inl rfl) _
          have hz5 := RoAtK.upd (hz4) su5 (Nat.le_refl _) nrg nmg (fun k cur hk _ e => by subst e; rw [eb4] at hk; simp at hk)
          have gr5 : Grp (((((w5.setCell ⟨gg, 1, none⟩ (.bool true)).setCell ⟨gg, 4, none⟩ (.int .i64 ao)).setCell ⟨gg, 5, none⟩ (.int .u64 an)).setCell ⟨gg, 6, none⟩ (.int .i64 ai)).setCell ⟨gg, 7, none⟩ (.int .u64 am)) W.heap.size (.slice A groups.length c) groups := (gr4).kept fun k cur hk _ => su5.block k (blk_lt hk) (fun e => by subst e; rw [eb4] at hk; simp at hk)
          have eb5 : (((((w5.setCell ⟨gg, 1, none⟩ (.bool true)).setCell ⟨gg, 4, none⟩ (.int .i64 ao)).setCell ⟨gg, 5, none⟩ (.int .u64 an)).setCell ⟨gg, 6, none⟩ (.int .i64 ai)).setCell ⟨gg, 7, none⟩ (.int .u64 am)).heap[gg]? = some (.cells #[.string contact, .bool true, .string name, .slice A groups.length c, .int .i64 ao, .int .u64 an, .int .i64 ai, .int .u64 am] 54) := blk_set_same (eb4) 7 _
          have HS : Upd w5.heap.size (fun k => k = gg ∨ k = rb) w5 (((((w5.setCell ⟨gg, 1, none⟩ (.bool true)).setCell ⟨gg, 4, none⟩ (.int .i64 ao)).setCell ⟨gg, 5, none⟩ (.int .u64 an)).setCell ⟨gg, 6, none⟩ (.int .i64 ai)).setCell ⟨gg, 7, none⟩ (.int .u64 am)) := (Upd.setCell (ks := fun k => k = gg ∨ k = rb) (Upd.setCell (ks := fun k => k = gg ∨ k = rb) (Upd.setCell (ks := fun k => k = gg ∨ k = rb) (Upd.setCell (ks := fun k => k = gg ∨ k = rb) (Upd.setCell (ks := fun k => k = gg ∨ k = rb) (Upd.refl _ _ _) (a := (⟨gg, 1, none⟩ : Addr)) (.inl (.inl rfl)) _) (a := (⟨gg, 4, none⟩ : Addr)) (.inl (.inl rfl)) _) (a := (⟨gg, 5, none⟩ : Addr)) (.inl (.inl rfl)) _) (a := (⟨gg, 6, none⟩ : Addr)) (.inl (.inl rfl)) _) (a := (⟨gg, 7, none⟩ : Addr)) (.inl (.inl rfl)) _)
          have HZ := Lib.hid (And.intro (hz5) (And.intro (eb5) (And.intro (gr5) HS)))
          clear HS hz1 eb1 gr1 hz2 eb2 gr2 hz3 eb3 gr3 hz4 eb4 gr4 hz5 eb5 gr5 su1 su2 su3 su4 su5
          go_wp2_with fail
          generalize hWX : (((((w5.setCell ⟨gg, 1, none⟩ (.bool true)).setCell ⟨gg, 4, none⟩ (.int .i64 ao)).setCell ⟨gg, 5, none⟩ (.int .u64 an)).setCell ⟨gg, 6, none⟩ (.int .i64 ai)).setCell ⟨gg, 7, none⟩ (.int .u64 am)) = WX at HZ ⊢
          clear hWX k2 k0 r3 rz3 x0 xz0 x1 xz1 x2 xz2 x3 xz3 x4 xz4 x5 xz5 x6 xz6 x7 xz7 y0 y1 y2 y3
          refine (rset_any HZ.out.1 (⟨contact, true, name, groups, ⟨ao, an, ai, am⟩⟩ : Ent) _ HZ.out.2.2.1.strs HGL.out.1 HGL.out.2.1 HGL.out.2.2.1 (by have := HGL.out.2.2.2; have := HB5.out.size; have := HZ.out.2.2.2.size; omega)).mono ?_
          rintro e w6 ⟨rfl, hro6, hu6⟩
          have hl1 := blk_lt HX.out.b5
          have BX6 := blk_upd HZ.out.2.1 hu6 (blk_lt HZ.out.2.1) (by rintro (e | e); exact nrg e.symm; exact nmg e.symm)
          have T3 := blk_upd (blk_upd BOX5.out.b3 HZ.out.2.2.2 (blk_lt BOX5.out.b3) (by have := HGB.out; have := HGG.out.1; rintro (e | e) <;> omega)) hu6 (by have := HZ.out.2.2.2.size; have := blk_lt BOX5.out.b3; omega) (by have := HGB.out; rintro (e | e) <;> omega)
          have T4 := blk_upd (blk_upd BOX5.out.b4 HZ.out.2.2.2 (blk_lt BOX5.out.b4) (by have := HGB.out; have := HGG.out.1; rintro (e | e) <;> omega)) hu6 (by have := HZ.out.2.2.2.size; have := blk_lt BOX5.out.b4; omega) (by have := HGB.out; rintro (e | e) <;> omega)
          have T5 := blk_upd (blk_upd BOX5.out.b5 HZ.out.2.2.2 (blk_lt BOX5.out.b5) (by have := HGB.out; have := HGG.out.1; rintro (e | e) <;> omega)) hu6 (by have := HZ.out.2.2.2.size; have := blk_lt BOX5.out.b5; omega) (by have := HGB.out; rintro (e | e) <;> omega)
          have HU6 : Upd W.heap.size (fun k => k = rb ∨ k = mb ∨ k = g + 3 ∨ k = g + 4 ∨ k = g + 5) W w6 := act_upd HB5.out HZ.out.2.2.2 hu6 HGG.out.1
          have HF := Lib.hid (And.intro hro6 (And.intro HU6 (And.intro T3 (And.intro T4 T5))))
          have x1 : w6.cell? ⟨gg, 1, none⟩ = some (.bool true) := blk_cell BX6 1
          have t3 : w6.cell? ⟨g + 3, 0, none⟩ = some (.int .i64 0) := blk_cell T3 0
          have tz3 : w6.frozen? ⟨g + 3, 0, none⟩ = false := blk_frozen T3 0
          have t4 : w6.cell? ⟨g + 4, 0, none⟩ = some (.int .u64 0) := blk_cell T4 0
          have tz4 : w6.frozen? ⟨g + 4, 0, none⟩ = false := blk_frozen T4 0
          have t5 : w6.cell? ⟨g + 5, 0, none⟩ = some (.bool false) := blk_cell T5 0
          have tz5 : w6.frozen? ⟨g + 5, 0, none⟩ = false := blk_frozen T5 0
          clear hro6 hu6 BX6 T3 T4 T5 HU6 HZ
          go_wp2_with fail
          go_region
          all_goals
            go_wp2_with fail
            go_end0
            rw [HRS.out]
            exact ⟨rfl, act_fin HF.out.1 HF.out.2.1 HGB.out HF.out.2.2.1 HF.out.2.2.2.1 HF.out.2.2.2.2 _ _ _⟩
      by_cases hk13 : k = 13
      · subst hk13
        cases hkept : kept
        · have hres : RES = .ok ((R : RS).set ⟨contact, false, name, groups, ⟨ao, an, ai, am⟩⟩, am2, an2, false) := by rw [← HRES.out.1, RS.act_do HRES.out.2.1 HRES.out.2.2.1 HRES.out.2.2.2.1 (by decide) HRES.out.2.2.2.2 hm (by rw [hkept]; simp), hkept]; rfl
          have hm1 : (am2 == 0) = false := by simpa using hm
          have HRS := Lib.hid hres
          clear hres hm HRES
          clear d1 d2 HKD
          subst hkept
          have HB2 := Lib.hid ((HIT2.out.1).trans (hb2.mono HIT2.out.1.size))
          have BOX2 := Lib.hid (BOX.out.below hb2)
          have RO2 := Lib.hid (RO.out.below hb2)
          have EB2 := Lib.hid (blk_below HIT2.out.2.2.1 hb2 (blk_lt HIT2.out.2.2.1))
          have GR2 := Lib.hid (HIT2.out.2.2.2.kept fun k cur hk _ => hb2.block k (blk_lt hk))
          have HBH2 := Lib.hid hbh
          have HGG := Lib.hid (And.intro HIT2.out.2.1 (Nat.le_trans HIT2.out.1.size hg2))
          have hne2 : gg ≠ g2 := by have := blk_lt HIT2.out.2.2.1; omega
          have HNE2 := Lib.hid hne2
          clear hb2 hbh hg2 hne2 BOX RO HIT2 lt1 lt2 lt3 lt4 r3 k2 k0 e4 e5 e6 e7
          have k2 : wc.cell? ⟨g + 2, 0, none⟩ = some (.int .i64 13) := blk_cell BOX2.out.b2 0
          have k0 : wc.cell? ⟨g, 0, none⟩ = some (.pointer (some ⟨rb, 0, none⟩)) := blk_cell BOX2.out.b0 0
          obtain ⟨x0, x1, x2, x3, x4, x5, x6, x7, xz0, xz1, xz2, xz3, xz4, xz5, xz6, xz7⟩ := cells8 (EB2.out)
          obtain ⟨y0, y1, y2, y3, _, _, _, _⟩ := cells4 (HBH2.out)
          have r3 : wc.cell? ⟨rb, 3, none⟩ = some (.int .u64 R.next) := blk_cell RO2.out.cells 3
          have rz3 : wc.frozen? ⟨rb, 3, none⟩ = false := blk_frozen RO2.out.cells 3
          have rlt := RO2.out.lt
          have hl5 := blk_lt HX.out.b5
          have ne_ggg2 : ¬ gg = g2 := by have := HGG.out; have := HGB.out; have := HNE2.out; omega
          have ne2_ggg2 : ¬ g2 = gg := fun e => ne_ggg2 e.symm
          have ne3_ggg2 : (gg == g2) = false := by simpa using ne_ggg2
          have ne_rbg2 : ¬ rb = g2 := by have := HGG.out; have := HGB.out; have := HNE2.out; omega
          have ne2_rbg2 : ¬ g2 = rb := fun e => ne_rbg2 e.symm
          have ne3_rbg2 : (rb == g2) = false := by simpa using ne_rbg2
          have ne_ggg : ¬ g = gg := by have := HGG.out; have := HGB.out; have := HNE2.out; omega
          have ne2_ggg : ¬ gg = g := fun e => ne_ggg e.symm
          have ne3_ggg : (g == gg) = false := by simpa using ne_ggg
          have ne_gp2gg : ¬ g + 2 = gg := by have := HGG.out; have := HGB.out; have := HNE2.out; omega
          have ne2_gp2gg : ¬ gg = g + 2 := fun e => ne_gp2gg e.symm
          have ne3_gp2gg : (g + 2 == gg) = false := by simpa using ne_gp2gg
          have ne_rbgg : ¬ rb = gg := by have := HGG.out; have := HGB.out; have := HNE2.out; omega
          have ne2_rbgg : ¬ gg = rb := fun e => ne_rbgg e.symm
          have ne3_rbgg : (rb == gg) = false := by simpa using ne_rbgg
          have ne_rbg : ¬ rb = g := by have := HGG.out; have := HGB.out; have := HNE2.out; omega
          have ne2_rbg : ¬ g = rb := fun e => ne_rbg e.symm
          have ne3_rbg : (rb == g) = false := by simpa using ne_rbg
          have ne_rbgp2 : ¬ rb = g + 2 := by have := HGG.out; have := HGB.out; have := HNE2.out; omega
          have ne2_rbgp2 : ¬ g + 2 = rb := fun e => ne_rbgp2 e.symm
          have ne3_rbgp2 : (rb == g + 2) = false := by simpa using ne_rbgp2
          have nrg : rb ≠ gg := by have := HGG.out.1; have := HGB.out; omega
          have nmg : mb ≠ gg := by have := HGG.out.1; have := HGB.out; omega
          have su1 : Upd wc.heap.size (fun k => k = gg) wc (wc.setCell ⟨gg, 4, none⟩ (.int .i64 ao)) := Upd.setCell (ks := fun k => k = gg) (Upd.refl _ _ _) (a := (⟨gg, 4, none⟩ : Addr)) (.inl rfl) _
          have hz1 := RoAtK.upd (RO2.out) su1 (Nat.le_refl _) nrg nmg (fun k cur hk _ e => by subst e; rw [EB2.out] at hk; simp at hk)
          have gr1 : Grp (wc.setCell ⟨gg, 4, none⟩ (.int .i64 ao)) W.heap.size (.slice A groups.length c) groups := (GR2.out).kept fun k cur hk _ => su1.block k (blk_lt hk) (fun e => by subst e; rw [EB2.out] at hk; simp at hk)
          have eb1 : (wc.setCell ⟨gg, 4, none⟩ (.int .i64 ao)).heap[gg]? = some (.cells #[.string contact, .bool false, .string name, .slice A groups.length c, .int .i64 ao, .int .u64 hn', .int .i64 i, .int .u64 m] 54) := blk_set_same (EB2.out) 4 _
          have su2 : Upd (wc.setCell ⟨gg, 4, none⟩ (.int .i64 ao)).heap.size (fun k => k = gg) (wc.setCell ⟨gg, 4, none⟩ (.int .i64 ao)) ((wc.setCell ⟨gg, 4, none⟩ (.int .i64 ao)).setCell ⟨gg, 5, none⟩ (.int .u64 an)) := Upd.setCell (ks := fun k => k = gg) (Upd.refl _ _ _) (a := (⟨gg, 5, none⟩ : Addr)) (.inl rfl) _
          have hz2 := RoAtK.upd (hz1) su2 (Nat.le_refl _) nrg nmg (fun k cur hk _ e => by subst e; rw [eb1] at hk; simp at hk)
          have gr2 : Grp ((wc.setCell ⟨gg, 4, none⟩ (.int .i64 ao)).setCell ⟨gg, 5, none⟩ (.int .u64 an)) W.heap.size (.slice A groups.length c) groups := (gr1).kept fun k cur hk _ => su2.block k (blk_lt hk) (fun e => by subst e; rw [eb1] at hk; simp at hk)
          have eb2 : ((wc.setCell ⟨gg, 4, none⟩ (.int .i64 ao)).setCell ⟨gg, 5, none⟩ (.int .u64 an)).heap[gg]? = some (.cells #[.string contact, .bool false, .string name, .slice A groups.length c, .int .i64 ao, .int .u64 an, .int .i64 i, .int .u64 m] 54) := blk_set_same (eb1) 5 _
          have su3 : Upd ((wc.setCell ⟨gg, 4, none⟩ (.int .i64 ao)).setCell ⟨gg, 5, none⟩ (.int .u64 an)).heap.size (fun k => k = gg) ((wc.setCell ⟨gg, 4, none⟩ (.int .i64 ao)).setCell ⟨gg, 5, none⟩ (.int .u64 an)) (((wc.setCell ⟨gg, 4, none⟩ (.int .i64 ao)).setCell ⟨gg, 5, none⟩ (.int .u64 an)).setCell ⟨gg, 6, none⟩ (.int .i64 ai)) := Upd.setCell (ks := fun k => k = gg) (Upd.refl _ _ _) (a := (⟨gg, 6, none⟩ : Addr)) (.inl rfl) _
          have hz3 := RoAtK.upd (hz2) su3 (Nat.le_refl _) nrg nmg (fun k cur hk _ e => by subst e; rw [eb2] at hk; simp at hk)
          have gr3 : Grp (((wc.setCell ⟨gg, 4, none⟩ (.int .i64 ao)).setCell ⟨gg, 5, none⟩ (.int .u64 an)).setCell ⟨gg, 6, none⟩ (.int .i64 ai)) W.heap.size (.slice A groups.length c) groups := (gr2).kept fun k cur hk _ => su3.block k (blk_lt hk) (fun e => by subst e; rw [eb2] at hk; simp at hk)
          have eb3 : (((wc.setCell ⟨gg, 4, none⟩ (.int .i64 ao)).setCell ⟨gg, 5, none⟩ (.int .u64 an)).setCell ⟨gg, 6, none⟩ (.int .i64 ai)).heap[gg]? = some (.cells #[.string contact, .bool false, .string name, .slice A groups.length c, .int .i64 ao, .int .u64 an, .int .i64 ai, .int .u64 m] 54) := blk_set_same (eb2) 6 _
          have su4 : Upd (((wc.setCell ⟨gg, 4, none⟩ (.int .i64 ao)).setCell ⟨gg, 5, none⟩ (.int .u64 an)).setCell ⟨gg, 6, none⟩ (.int .i64 ai)).heap.size (fun k => k = gg) (((wc.setCell ⟨gg, 4, none⟩ (.int .i64 ao)).setCell ⟨gg, 5, none⟩ (.int .u64 an)).setCell ⟨gg, 6, none⟩ (.int .i64 ai)) ((((wc.setCell ⟨gg, 4, none⟩ (.int .i64 ao)).setCell ⟨gg, 5, none⟩ (.int .u64 an)).setCell ⟨gg, 6, none⟩ (.int .i64 ai)).setCell ⟨gg, 7, none⟩ (.int .u64 am)) := Upd.setCell (ks := fun k => k = gg) (Upd.refl _ _ _) (a := (⟨gg, 7, none⟩ : Addr)) (.inl rfl) _
          have hz4 := RoAtK.upd (hz3) su4 (Nat.le_refl _) nrg nmg (fun k cur hk _ e => by subst e; rw [eb3] at hk; simp at hk)
          have gr4 : Grp ((((wc.setCell ⟨gg, 4, none⟩ (.int .i64 ao)).setCell ⟨gg, 5, none⟩ (.int .u64 an)).setCell ⟨gg, 6, none⟩ (.int .i64 ai)).setCell ⟨gg, 7, none⟩ (.int .u64 am)) W.heap.size (.slice A groups.length c) groups := (gr3).kept fun k cur hk _ => su4.block k (blk_lt hk) (fun e => by subst e; rw [eb3] at hk; simp at hk)
          have eb4 : ((((wc.setCell ⟨gg, 4, none⟩ (.int .i64 ao)).setCell ⟨gg, 5, none⟩ (.int .u64 an)).setCell ⟨gg, 6, none⟩ (.int .i64 ai)).setCell ⟨gg, 7, none⟩ (.int .u64 am)).heap[gg]? = some (.cells #[.string contact, .bool false, .string name, .slice A groups.length c, .int .i64 ao, .int .u64 an, .int .i64 ai, .int .u64 am] 54) := blk_set_same (eb3) 7 _
          have HS : Upd wc.heap.size (fun k => k = gg ∨ k = rb) wc ((((wc.setCell ⟨gg, 4, none⟩ (.int .i64 ao)).setCell ⟨gg, 5, none⟩ (.int .u64 an)).setCell ⟨gg, 6, none⟩ (.int .i64 ai)).setCell ⟨gg, 7, none⟩ (.int .u64 am)) := (Upd.setCell (ks := fun k => k = gg ∨ k = rb) (Upd.setCell (ks := fun k => k = gg ∨ k = rb) (Upd.setCell (ks := fun k => k = gg ∨ k = rb) (Upd.setCell (ks := fun k => k = gg ∨ k = rb) (Upd.refl _ _ _) (a := (⟨gg, 4, none⟩ : Addr)) (.inl (.inl rfl)) _) (a := (⟨gg, 5, none⟩ : Addr)) (.inl (.inl rfl)) _) (a := (⟨gg, 6, none⟩ : Addr)) (.inl (.inl rfl)) _) (a := (⟨gg, 7, none⟩ : Addr)) (.inl (.inl rfl)) _)
          have HZ := Lib.hid (And.intro (hz4) (And.intro (eb4) (And.intro (gr4) HS)))
          clear HS hz1 eb1 gr1 hz2 eb2 gr2 hz3 eb3 gr3 hz4 eb4 gr4 su1 su2 su3 su4
          go_wp2_with fail
          generalize hWX : ((((wc.setCell ⟨gg, 4, none⟩ (.int .i64 ao)).setCell ⟨gg, 5, none⟩ (.int .u64 an)).setCell ⟨gg, 6, none⟩ (.int .i64 ai)).setCell ⟨gg, 7, none⟩ (.int .u64 am)) = WX at HZ ⊢
          clear hWX k2 k0 r3 rz3 x0 xz0 x1 xz1 x2 xz2 x3 xz3 x4 xz4 x5 xz5 x6 xz6 x7 xz7 y0 y1 y2 y3
          refine (rset_any HZ.out.1 (⟨contact, false, name, groups, ⟨ao, an, ai, am⟩⟩ : Ent) _ HZ.out.2.2.1.strs HGL.out.1 HGL.out.2.1 HGL.out.2.2.1 (by have := HGL.out.2.2.2; have := HB2.out.size; have := HZ.out.2.2.2.size; omega)).mono ?_
          rintro e w6 ⟨rfl, hro6, hu6⟩
          have hl1 := blk_lt HX.out.b5
          have BX6 := blk_upd HZ.out.2.1 hu6 (blk_lt HZ.out.2.1) (by rintro (e | e); exact nrg e.symm; exact nmg e.symm)
          have T3 := blk_upd (blk_upd BOX2.out.b3 HZ.out.2.2.2 (blk_lt BOX2.out.b3) (by have := HGB.out; have := HGG.out.1; rintro (e | e) <;> omega)) hu6 (by have := HZ.out.2.2.2.size; have := blk_lt BOX2.out.b3; omega) (by have := HGB.out; rintro (e | e) <;> omega)
          have T4 := blk_upd (blk_upd BOX2.out.b4 HZ.out.2.2.2 (blk_lt BOX2.out.b4) (by have := HGB.out; have := HGG.out.1; rintro (e | e) <;> omega)) hu6 (by have := HZ.out.2.2.2.size; have := blk_lt BOX2.out.b4; omega) (by have := HGB.out; rintro (e | e) <;> omega)
          have T5 := blk_upd (blk_upd BOX2.out.b5 HZ.out.2.2.2 (blk_lt BOX2.out.b5) (by have := HGB.out; have := HGG.out.1; rintro (e | e) <;> omega)) hu6 (by have := HZ.out.2.2.2.size; have := blk_lt BOX2.out.b5; omega) (by have := HGB.out; rintro (e | e) <;> omega)
          have HU6 : Upd W.heap.size (fun k => k = rb ∨ k = mb ∨ k = g + 3 ∨ k = g + 4 ∨ k = g + 5) W w6 := act_upd HB2.out HZ.out.2.2.2 hu6 HGG.out.1
          have HF := Lib.hid (And.intro hro6 (And.intro HU6 (And.intro T3 (And.intro T4 T5))))
          have x1 : w6.cell? ⟨gg, 1, none⟩ = some (.bool false) := blk_cell BX6 1
          have t3 : w6.cell? ⟨g + 3, 0, none⟩ = some (.int .i64 0) := blk_cell T3 0
          have tz3 : w6.frozen? ⟨g + 3, 0, none⟩ = false := blk_frozen T3 0
          have t4 : w6.cell? ⟨g + 4, 0, none⟩ = some (.int .u64 0) := blk_cell T4 0
          have tz4 : w6.frozen? ⟨g + 4, 0, none⟩ = false := blk_frozen T4 0
          have t5 : w6.cell? ⟨g + 5, 0, none⟩ = some (.bool false) := blk_cell T5 0
          have tz5 : w6.frozen? ⟨g + 5, 0, none⟩ = false := blk_frozen T5 0
          clear hro6 hu6 BX6 T3 T4 T5 HU6 HZ
          go_wp2_with fail
          go_region
          all_goals
            go_wp2_with fail
            go_end0
            rw [HRS.out]
            exact ⟨rfl, act_fin HF.out.1 HF.out.2.1 HGB.out HF.out.2.2.1 HF.out.2.2.2.1 HF.out.2.2.2.2 _ _ _⟩
        · have hres : RES = .ok ((R : RS).set ⟨contact, true, name, groups, ⟨ao, an, ai, am⟩⟩, am2, an2, true) := by rw [← HRES.out.1, RS.act_do HRES.out.2.1 HRES.out.2.2.1 HRES.out.2.2.2.1 (by decide) HRES.out.2.2.2.2 hm (by rw [hkept]; simp), hkept]; rfl
          have hm1 : (am2 == 0) = false := by simpa using hm
          have HRS := Lib.hid hres
          clear hres hm HRES
          clear d1 d2 HKD
          subst hkept
          have HB2 := Lib.hid ((HIT2.out.1).trans (hb2.mono HIT2.out.1.size))
          have BOX2 := Lib.hid (BOX.out.below hb2)
          have RO2 := Lib.hid (RO.out.below hb2)
          have EB2 := Lib.hid (blk_below HIT2.out.2.2.1 hb2 (blk_lt HIT2.out.2.2.1))
          have GR2 := Lib.hid (HIT2.out.2.2.2.kept fun k cur hk _ => hb2.block k (blk_lt hk))
          have HBH2 := Lib.hid hbh
          have HGG := Lib.hid (And.intro HIT2.out.2.1 (Nat.le_trans HIT2.out.1.size hg2))
          have hne2 : gg ≠ g2 := by have := blk_lt HIT2.out.2.2.1; omega
          have HNE2 := Lib.hid hne2
          clear hb2 hbh hg2 hne2 BOX RO HIT2 lt1 lt2 lt3 lt4 r3 k2 k0 e4 e5 e6 e7
          have k2 : wc.cell? ⟨g + 2, 0, none⟩ = some (.int .i64 13) := blk_cell BOX2.out.b2 0
          have k0 : wc.cell? ⟨g, 0, none⟩ = some (.pointer (some ⟨rb, 0, none⟩)) := blk_cell BOX2.out.b0 0
          obtain ⟨x0, x1, x2, x3, x4, x5, x6, x7, xz0, xz1, xz2, xz3, xz4, xz5, xz6, xz7⟩ := cells8 (EB2.out)
          obtain ⟨y0, y1, y2, y3, _, _, _, _⟩ := cells4 (HBH2.out)
          have r3 : wc.cell? ⟨rb, 3, none⟩ = some (.int .u64 R.next) := blk_cell RO2.out.cells 3
          have rz3 : wc.frozen? ⟨rb, 3, none⟩ = false := blk_frozen RO2.out.cells 3
          have rlt := RO2.out.lt
          have hl5 := blk_lt HX.out.b5
          have ne_ggg2 : ¬ gg = g2 := by have := HGG.out; have := HGB.out; have := HNE2.out; omega
          have ne2_ggg2 : ¬ g2 = gg := fun e => ne_ggg2 e.symm
          have ne3_ggg2 : (gg == g2) = false := by simpa using ne_ggg2
          have ne_rbg2 : ¬ rb = g2 := by have := HGG.out; have := HGB.out; have := HNE2.out; omega
          have ne2_rbg2 : ¬ g2 = rb := fun e => ne_rbg2 e.symm
          have ne3_rbg2 : (rb == g2) = false := by simpa using ne_rbg2
          have ne_ggg : ¬ g = gg := by have := HGG.out; have := HGB.out; have := HNE2.out; omega
          have ne2_ggg : ¬ gg = g := fun e => ne_ggg e.symm
          have ne3_ggg : (g == gg) = false := by simpa using ne_ggg
          have ne_gp2gg : ¬ g + 2 = gg := by have := HGG.out; have := HGB.out; have := HNE2.out; omega
          have ne2_gp2gg : ¬ gg = g + 2 := fun e => ne_gp2gg e.symm
          have ne3_gp2gg : (g + 2 == gg) = false := by simpa using ne_gp2gg
          have ne_rbgg : ¬ rb = gg := by have := HGG.out; have := HGB.out; have := HNE2.out; omega
          have ne2_rbgg : ¬ gg = rb := fun e => ne_rbgg e.symm
          have ne3_rbgg : (rb == gg) = false := by simpa using ne_rbgg
          have ne_rbg : ¬ rb = g := by have := HGG.out; have := HGB.out; have := HNE2.out; omega
          have ne2_rbg : ¬ g = rb := fun e => ne_rbg e.symm
          have ne3_rbg : (rb == g) = false := by simpa using ne_rbg
          have ne_rbgp2 : ¬ rb = g + 2 := by have := HGG.out; have := HGB.out; have := HNE2.out; omega
          have ne2_rbgp2 : ¬ g + 2 = rb := fun e => ne_rbgp2 e.symm
          have ne3_rbgp2 : (rb == g + 2) = false := by simpa using ne_rbgp2
          have nrg : rb ≠ gg := by have := HGG.out.1; have := HGB.out; omega
          have nmg : mb ≠ gg := by have := HGG.out.1; have := HGB.out; omega
          have su1 : Upd wc.heap.size (fun k => k = gg) wc (wc.setCell ⟨gg, 4, none⟩ (.int .i64 ao)) := Upd.setCell (ks := fun k => k = gg) (Upd.refl _ _ _) (a := (⟨gg, 4, none⟩ : Addr)) (.inl rfl) _
          have hz1 := RoAtK.upd (RO2.out) su1 (Nat.le_refl _) nrg nmg (fun k cur hk _ e => by subst e; rw [EB2.out] at hk; simp at hk)
          have gr1 : Grp (wc.setCell ⟨gg, 4, none⟩ (.int .i64 ao)) W.heap.size (.slice A groups.length c) groups := (GR2.out).kept fun k cur hk _ => su1.block k (blk_lt hk) (fun e => by subst e; rw [EB2.out] at hk; simp at hk)
          have eb1 : (wc.setCell ⟨gg, 4, none⟩ (.int .i64 ao)).heap[gg]? = some (.cells #[.string contact, .bool true, .string name, .slice A groups.length c, .int .i64 ao, .int .u64 hn', .int .i64 i, .int .u64 m] 54) := blk_set_same (EB2.out) 4 _
          have su2 : Upd (wc.setCell ⟨gg, 4, none⟩ (.int .i64 ao)).heap.size (fun k => k = gg) (wc.setCell ⟨gg, 4, none⟩ (.int .i64 ao)) ((wc.setCell ⟨gg, 4, none⟩ (.int .i64 ao)).setCell ⟨gg, 5, none⟩ (.int .u64 an)) := Upd.setCell (ks := fun k => k = gg) (Upd.refl _ _ _) (a := (⟨gg, 5, none⟩ : Addr)) (.inl rfl) _
          have hz2 := RoAtK.upd (hz1) su2 (Nat.le_refl _) nrg nmg (fun k cur hk _ e => by subst e; rw [eb1] at hk; simp at hk)
          have gr2 : Grp ((wc.setCell ⟨gg, 4, none⟩ (.int .i64 ao)).setCell ⟨gg, 5, none⟩ (.int .u64 an)) W.heap.size (.slice A groups.length c) groups := (gr1).kept fun k cur hk _ => su2.block k (blk_lt hk) (fun e => by subst e; rw [eb1] at hk; simp at hk)
          have eb2 : ((wc.setCell ⟨gg, 4, none⟩ (.int .i64 ao)).setCell ⟨gg, 5, none⟩ (.int .u64 an)).heap[gg]? = some (.cells #[.string contact, .bool true, .string name, .slice A groups.length c, .int .i64 ao, .int .u64 an, .int .i64 i, .int .u64 m] 54) := blk_set_same (eb1) 5 _
          have su3 : Upd ((wc.setCell ⟨gg, 4, none⟩ (.int .i64 ao)).setCell ⟨gg, 5, none⟩ (.int .u64 an)).heap.size (fun k => k = gg) ((wc.setCell ⟨gg, 4, none⟩ (.int .i64 ao)).setCell ⟨gg, 5, none⟩ (.int .u64 an)) (((wc.setCell ⟨gg, 4, none⟩ (.int .i64 ao)).setCell ⟨gg, 5, none⟩ (.int .u64 an)).setCell ⟨gg, 6, none⟩ (.int .i64 ai)) := Upd.setCell (ks := fun k => k = gg) (Upd.refl _ _ _) (a := (⟨gg, 6, none⟩ : Addr)) (.inl rfl) _
          have hz3 := RoAtK.upd (hz2) su3 (Nat.le_refl _) nrg nmg (fun k cur hk _ e => by subst e; rw [eb2] at hk; simp at hk)
          have gr3 : Grp (((wc.setCell ⟨gg, 4, none⟩ (.int .i64 ao)).setCell ⟨gg, 5, none⟩ (.int .u64 an)).setCell ⟨gg, 6, none⟩ (.int .i64 ai)) W.heap.size (.slice A groups.length c) groups := (gr2).kept fun k cur hk _ => su3.block k (blk_lt hk) (fun e => by subst e; rw [eb2] at hk; simp at hk)
          have eb3 : (((wc.setCell ⟨gg, 4, none⟩ (.int .i64 ao)).setCell ⟨gg, 5, none⟩ (.int .u64 an)).setCell ⟨gg, 6, none⟩ (.int .i64 ai)).heap[gg]? = some (.cells #[.string contact, .bool true, .string name, .slice A groups.length c, .int .i64 ao, .int .u64 an, .int .i64 ai, .int .u64 m] 54) := blk_set_same (eb2) 6 _
          have su4 : Upd (((wc.setCell ⟨gg, 4, none⟩ (.int .i64 ao)).setCell ⟨gg, 5, none⟩ (.int .u64 an)).setCell ⟨gg, 6, none⟩ (.int .i64 ai)).heap.size (fun k => k = gg) (((wc.setCell ⟨gg, 4, none⟩ (.int .i64 ao)).setCell ⟨gg, 5, none⟩ (.int .u64 an)).setCell ⟨gg, 6, none⟩ (.int .i64 ai)) ((((wc.setCell ⟨gg, 4, none⟩ (.int .i64 ao)).setCell ⟨gg, 5, none⟩ (.int .u64 an)).setCell ⟨gg, 6, none⟩ (.int .i64 ai)).setCell ⟨gg, 7, none⟩ (.int .u64 am)) := Upd.setCell (ks := fun k => k = gg) (Upd.refl _ _ _) (a := (⟨gg, 7, none⟩ : Addr)) (.inl rfl) _
          have hz4 := RoAtK.upd (hz3) su4 (Nat.le_refl _) nrg nmg (fun k cur hk _ e => by subst e; rw [eb3] at hk; simp at hk)
          have gr4 : Grp ((((wc.setCell ⟨gg, 4, none⟩ (.int .i64 ao)).setCell ⟨gg, 5, none⟩ (.int .u64 an)).setCell ⟨gg, 6, none⟩ (.int .i64 ai)).setCell ⟨gg, 7, none⟩ (.int .u64 am)) W.heap.size (.slice A groups.length c) groups := (gr3).kept fun k cur hk _ => su4.block k (blk_lt hk) (fun e => by subst e; rw [eb3] at hk; simp at hk)
          have eb4 : ((((wc.setCell ⟨gg, 4, none⟩ (.int .i64 ao)).setCell ⟨gg, 5, none⟩ (.int .u64 an)).setCell ⟨gg, 6, none⟩ (.int .i64 ai)).setCell ⟨gg, 7, none⟩ (.int .u64 am)).heap[gg]? = some (.cells #[.string contact, .bool true, .string name, .slice A groups.length c, .int .i64 ao, .int .u64 an, .int .i64 ai, .int .u64 am] 54) := blk_set_same (eb3) 7 _
          have HS : Upd wc.heap.size (fun k => k = gg ∨ k = rb) wc ((((wc.setCell ⟨gg, 4, none⟩ (.int .i64 ao)).setCell ⟨gg, 5, none⟩ (.int .u64 an)).setCell ⟨gg, 6, none⟩ (.int .i64 ai)).setCell ⟨gg, 7, none⟩ (.int .u64 am)) := (Upd.setCell (ks := fun k => k = gg ∨ k = rb) (Upd.setCell (ks := fun k => k = gg ∨ k = rb) (Upd.setCell (ks := fun k => k = gg ∨ k = rb) (Upd.setCell (ks := fun k => k = gg ∨ k = rb) (Upd.refl _ _ _) (a := (⟨gg, 4, none⟩ : Addr)) (.inl (.inl rfl)) _) (a := (⟨gg, 5, none⟩ : Addr)) (.inl (.inl rfl)) _) (a := (⟨gg, 6, none⟩ : Addr)) (.inl (.inl rfl)) _) (a := (⟨gg, 7, none⟩ : Addr)) (.inl (.inl rfl)) _)
          have HZ := Lib.hid (And.intro (hz4) (And.intro (eb4) (And.intro (gr4) HS)))
          clear HS hz1 eb1 gr1 hz2 eb2 gr2 hz3 eb3 gr3 hz4 eb4 gr4 su1 su2 su3 su4
          go_wp2_with fail
          generalize hWX : ((((wc.setCell ⟨gg, 4, none⟩ (.int .i64 ao)).setCell ⟨gg, 5, none⟩ (.int .u64 an)).setCell ⟨gg, 6, none⟩ (.int .i64 ai)).setCell ⟨gg, 7, none⟩ (.int .u64 am)) = WX at HZ ⊢
          clear hWX k2 k0 r3 rz3 x0 xz0 x1 xz1 x2 xz2 x3 xz3 x4 xz4 x5 xz5 x6 xz6 x7 xz7 y0 y1 y2 y3
          refine (rset_any HZ.out.1 (⟨contact, true, name, groups, ⟨ao, an, ai, am⟩⟩ : Ent) _ HZ.out.2.2.1.strs HGL.out.1 HGL.out.2.1 HGL.out.2.2.1 (by have := HGL.out.2.2.2; have := HB2.out.size; have := HZ.out.2.2.2.size; omega)).mono ?_
          rintro e w6 ⟨rfl, hro6, hu6⟩
          have hl1 := blk_lt HX.out.b5
          have BX6 := blk_upd HZ.out.2.1 hu6 (blk_lt HZ.out.2.1) (by rintro (e | e); exact nrg e.symm; exact nmg e.symm)
          have T3 := blk_upd (blk_upd BOX2.out.b3 HZ.out.2.2.2 (blk_lt BOX2.out.b3) (by have := HGB.out; have := HGG.out.1; rintro (e | e) <;> omega)) hu6 (by have := HZ.out.2.2.2.size; have := blk_lt BOX2.out.b3; omega) (by have := HGB.out; rintro (e | e) <;> omega)
          have T4 := blk_upd (blk_upd BOX2.out.b4 HZ.out.2.2.2 (blk_lt BOX2.out.b4) (by have := HGB.out; have := HGG.out.1; rintro (e | e) <;> omega)) hu6 (by have := HZ.out.2.2.2.size; have := blk_lt BOX2.out.b4; omega) (by have := HGB.out; rintro (e | e) <;> omega)
          have T5 := blk_upd (blk_upd BOX2.out.b5 HZ.out.2.2.2 (blk_lt BOX2.out.b5) (by have := HGB.out; have := HGG.out.1; rintro (e | e) <;> omega)) hu6 (by have := HZ.out.2.2.2.size; have := blk_lt BOX2.out.b5; omega) (by have := HGB.out; rintro (e | e) <;> omega)
          have HU6 : Upd W.heap.size (fun k => k = rb ∨ k = mb ∨ k = g + 3 ∨ k = g + 4 ∨ k = g + 5) W w6 := act_upd HB2.out HZ.out.2.2.2 hu6 HGG.out.1
          have HF := Lib.hid (And.intro hro6 (And.intro HU6 (And.intro T3 (And.intro T4 T5))))
          have x1 : w6.cell? ⟨gg, 1, none⟩ = some (.bool true) := blk_cell BX6 1
          have t3 : w6.cell? ⟨g + 3, 0, none⟩ = some (.int .i64 0) := blk_cell T3 0
          have tz3 : w6.frozen? ⟨g + 3, 0, none⟩ = false := blk_frozen T3 0
          have t4 : w6.cell? ⟨g + 4, 0, none⟩ = some (.int .u64 0) := blk_cell T4 0
          have tz4 : w6.frozen? ⟨g + 4, 0, none⟩ = false := blk_frozen T4 0
          have t5 : w6.cell? ⟨g + 5, 0, none⟩ = some (.bool false) := blk_cell T5 0
          have tz5 : w6.frozen? ⟨g + 5, 0, none⟩ = false := blk_frozen T5 0
          clear hro6 hu6 BX6 T3 T4 T5 HU6 HZ
          go_wp2_with fail
          go_region
          all_goals
            go_wp2_with fail
            go_end0
            rw [HRS.out]
            exact ⟨rfl, act_fin HF.out.1 HF.out.2.1 HGB.out HF.out.2.2.1 HF.out.2.2.2.1 HF.out.2.2.2.2 _ _ _⟩
      · have hk14 : k = 14 := by have := HKD.out; omega
        subst hk14
        cases hkept : kept
        · have hres : RES = .ok ((R : RS).set ⟨contact, false, name, groups, ⟨ao, an, ai, am⟩⟩, am2, an2, false) := by rw [← HRES.out.1, RS.act_do HRES.out.2.1 HRES.out.2.2.1 HRES.out.2.2.2.1 (by decide) HRES.out.2.2.2.2 hm (by rw [hkept]; simp), hkept]; rfl
          have hm1 : (am2 == 0) = false := by simpa using hm
          have HRS := Lib.hid hres
          clear hres hm HRES
          clear d1 d2 HKD
          subst hkept
          have HB2 := Lib.hid ((HIT2.out.1).trans (hb2.mono HIT2.out.1.size))
          have BOX2 := Lib.hid (BOX.out.below hb2)
          have RO2 := Lib.hid (RO.out.below hb2)
          have EB2 := Lib.hid (blk_below HIT2.out.2.2.1 hb2 (blk_lt HIT2.out.2.2.1))
          have GR2 := Lib.hid (HIT2.out.2.2.2.kept fun k cur hk _ => hb2.block k (blk_lt hk))
          have HBH2 := Lib.hid hbh
          have HGG := Lib.hid (And.intro HIT2.out.2.1 (Nat.le_trans HIT2.out.1.size hg2))
          have hne2 : gg ≠ g2 := by have := blk_lt HIT2.out.2.2.1; omega
          have HNE2 := Lib.hid hne2
          clear hb2 hbh hg2 hne2 BOX RO HIT2 lt1 lt2 lt3 lt4 r3 k2 k0 e4 e5 e6 e7
          have k2 : wc.cell? ⟨g + 2, 0, none⟩ = some (.int .i64 14) := blk_cell BOX2.out.b2 0
          have k0 : wc.cell? ⟨g, 0, none⟩ = some (.pointer (some ⟨rb, 0, none⟩)) := blk_cell BOX2.out.b0 0
          obtain ⟨x0, x1, x2, x3, x4, x5, x6, x7, xz0, xz1, xz2, xz3, xz4, xz5, xz6, xz7⟩ := cells8 (EB2.out)
          obtain ⟨y0, y1, y2, y3, _, _, _, _⟩ := cells4 (HBH2.out)
          have r3 : wc.cell? ⟨rb, 3, none⟩ = some (.int .u64 R.next) := blk_cell RO2.out.cells 3
          have rz3 : wc.frozen? ⟨rb, 3, none⟩ = false := blk_frozen RO2.out.cells 3
          have rlt := RO2.out.lt
          have hl5 := blk_lt HX.out.b5
          have ne_ggg2 : ¬ gg = g2 := by have := HGG.out; have := HGB.out; have := HNE2.out; omega
          have ne2_ggg2 : ¬ g2 = gg := fun e => ne_ggg2 e.symm
          have ne3_ggg2 : (gg == g2) = false := by simpa using ne_ggg2
          have ne_rbg2 : ¬ rb = g2 := by have := HGG.out; have := HGB.out; have := HNE2.out; omega
          have ne2_rbg2 : ¬ g2 = rb := fun e => ne_rbg2 e.symm
          have ne3_rbg2 : (rb == g2) = false := by simpa using ne_rbg2
          have ne_ggg : ¬ g = gg := by have := HGG.out; have := HGB.out; have := HNE2.out; omega
          have ne2_ggg : ¬ gg = g := fun e => ne_ggg e.symm
          have ne3_ggg : (g == gg) = false := by simpa using ne_ggg
          have ne_gp2gg : ¬ g + 2 = gg := by have := HGG.out; have := HGB.out; have := HNE2.out; omega
          have ne2_gp2gg : ¬ gg = g + 2 := fun e => ne_gp2gg e.symm
          have ne3_gp2gg : (g + 2 == gg) = false := by simpa using ne_gp2gg
          have ne_rbgg : ¬ rb = gg := by have := HGG.out; have := HGB.out; have := HNE2.out; omega
          have ne2_rbgg : ¬ gg = rb := fun e => ne_rbgg e.symm
          have ne3_rbgg : (rb == gg) = false := by simpa using ne_rbgg
          have ne_rbg : ¬ rb = g := by have := HGG.out; have := HGB.out; have := HNE2.out; omega
          have ne2_rbg : ¬ g = rb := fun e => ne_rbg e.symm
          have ne3_rbg : (rb == g) = false := by simpa using ne_rbg
          have ne_rbgp2 : ¬ rb = g + 2 := by have := HGG.out; have := HGB.out; have := HNE2.out; omega
          have ne2_rbgp2 : ¬ g + 2 = rb := fun e => ne_rbgp2 e.symm
          have ne3_rbgp2 : (rb == g + 2) = false := by simpa using ne_rbgp2
          have nrg : rb ≠ gg := by have := HGG.out.1; have := HGB.out; omega
          have nmg : mb ≠ gg := by have := HGG.out.1; have := HGB.out; omega
          have su1 : Upd wc.heap.size (fun k => k = gg) wc (wc.setCell ⟨gg, 4, none⟩ (.int .i64 ao)) := Upd.setCell (ks := fun k => k = gg) (Upd.refl _ _ _) (a := (⟨gg, 4, none⟩ : Addr)) (.inl rfl) _
          have hz1 := RoAtK.upd (RO2.out) su1 (Nat.le_refl _) nrg nmg (fun k cur hk _ e => by subst e; rw [EB2.out] at hk; simp at hk)
          have gr1 : Grp (wc.setCell ⟨gg, 4, none⟩ (.int .i64 ao)) W.heap.size (.slice A groups.length c) groups := (GR2.out).kept fun k cur hk _ => su1.block k (blk_lt hk) (fun e => by subst e; rw [EB2.out] at hk; simp at hk)
          have eb1 : (wc.setCell ⟨gg, 4, none⟩ (.int .i64 ao)).heap[gg]? = some (.cells #[.string contact, .bool false, .string name, .slice A groups.length c, .int .i64 ao, .int .u64 hn', .int .i64 i, .int .u64 m] 54) := blk_set_same (EB2.out) 4 _
          have su2 : Upd (wc.setCell ⟨gg, 4, none⟩ (.int .i64 ao)).heap.size (fun k => k = gg) (wc.setCell ⟨gg, 4, none⟩ (.int .i64 ao)) ((wc.setCell ⟨gg, 4, none⟩ (.int .i64 ao)).setCell ⟨gg, 5, none⟩ (.int .u64 an)) := Upd.setCell (ks := fun k => k = gg) (Upd.refl _ _ _) (a := (⟨gg, 5, none⟩ : Addr)) (.inl rfl) _
          have hz2 := RoAtK.upd (hz1) su2 (Nat.le_refl _) nrg nmg (fun k cur hk _ e => by subst e; rw [eb1] at hk; simp at hk)
          have gr2 : Grp ((wc.setCell ⟨gg, 4, none⟩ (.int .i64 ao)).setCell ⟨gg, 5, none⟩ (.int .u64 an)) W.heap.size (.slice A groups.length c) groups := (gr1).kept fun k cur hk _ => su2.block k (blk_lt hk) (fun e => by subst e; rw [eb1] at hk; simp at hk)
          have eb2 : ((wc.setCell ⟨gg, 4, none⟩ (.int .i64 ao)).setCell ⟨gg, 5, none⟩ (.int .u64 an)).heap[gg]? = some (.cells #[.string contact, .bool false, .string name, .slice A groups.length c, .int .i64 ao, .int .u64 an, .int .i64 i, .int .u64 m] 54) := blk_set_same (eb1) 5 _
          have su3 : Upd ((wc.setCell ⟨gg, 4, none⟩ (.int .i64 ao)).setCell ⟨gg, 5, none⟩ (.int .u64 an)).heap.size (fun k => k = gg) ((wc.setCell ⟨gg, 4, none⟩ (.int .i64 ao)).setCell ⟨gg, 5, none⟩ (.int .u64 an)) (((wc.setCell ⟨gg, 4, none⟩ (.int .i64 ao)).setCell ⟨gg, 5, none⟩ (.int .u64 an)).setCell ⟨gg, 6, none⟩ (.int .i64 ai)) := Upd.setCell (ks := fun k => k = gg) (Upd.refl _ _ _) (a := (⟨gg, 6, none⟩ : Addr)) (.inl rfl) _
          have hz3 := RoAtK.upd (hz2) su3 (Nat.le_refl _) nrg nmg (fun k cur hk _ e => by subst e; rw [eb2] at hk; simp at hk)
          have gr3 : Grp (((wc.setCell ⟨gg, 4, none⟩ (.int .i64 ao)).setCell ⟨gg, 5, none⟩ (.int .u64 an)).setCell ⟨gg, 6, none⟩ (.int .i64 ai)) W.heap.size (.slice A groups.length c) groups := (gr2).kept fun k cur hk _ => su3.block k (blk_lt hk) (fun e => by subst e; rw [eb2] at hk; simp at hk)
          have eb3 : (((wc.setCell ⟨gg, 4, none⟩ (.int .i64 ao)).setCell ⟨gg, 5, none⟩ (.int .u64 an)).setCell ⟨gg, 6, none⟩ (.int .i64 ai)).heap[gg]? = some (.cells #[.string contact, .bool false, .string name, .slice A groups.length c, .int .i64 ao, .int .u64 an, .int .i64 ai, .int .u64 m] 54) := blk_set_same (eb2) 6 _
          have su4 : Upd (((wc.setCell ⟨gg, 4, none⟩ (.int .i64 ao)).setCell ⟨gg, 5, none⟩ (.int .u64 an)).setCell ⟨gg, 6, none⟩ (.int .i64 ai)).heap.size (fun k => k = gg) (((wc.setCell ⟨gg, 4, none⟩ (.int .i64 ao)).setCell ⟨gg, 5, none⟩ (.int .u64 an)).setCell ⟨gg, 6, none⟩ (.int .i64 ai)) ((((wc.setCell ⟨gg, 4, none⟩ (.int .i64 ao)).setCell ⟨gg, 5, none⟩ (.int .u64 an)).setCell ⟨gg, 6, none⟩ (.int .i64 ai)).setCell ⟨gg, 7, none⟩ (.int .u64 am)) := Upd.setCell (ks := fun k => k = gg) (Upd.refl _ _ _) (a := (⟨gg, 7, none⟩ : Addr)) (.inl rfl) _
          have hz4 := RoAtK.upd (hz3) su4 (Nat.le_refl _) nrg nmg (fun k cur hk _ e => by subst e; rw [eb3] at hk; simp at hk)
          have gr4 : Grp ((((wc.setCell ⟨gg, 4, none⟩ (.int .i64 ao)).setCell ⟨gg, 5, none⟩ (.int .u64 an)).setCell ⟨gg, 6, none⟩ (.int .i64 ai)).setCell ⟨gg, 7, none⟩ (.int .u64 am)) W.heap.size (.slice A groups.length c) groups := (gr3).kept fun k cur hk _ => su4.block k (blk_lt hk) (fun e => by subst e; rw [eb3] at hk; simp at hk)
          have eb4 : ((((wc.setCell ⟨gg, 4, none⟩ (.int .i64 ao)).setCell ⟨gg, 5, none⟩ (.int .u64 an)).setCell ⟨gg, 6, none⟩ (.int .i64 ai)).setCell ⟨gg, 7, none⟩ (.int .u64 am)).heap[gg]? = some (.cells #[.string contact, .bool false, .string name, .slice A groups.length c, .int .i64 ao, .int .u64 an, .int .i64 ai, .int .u64 am] 54) := blk_set_same (eb3) 7 _
          have HS : Upd wc.heap.size (fun k => k = gg ∨ k = rb) wc ((((wc.setCell ⟨gg, 4, none⟩ (.int .i64 ao)).setCell ⟨gg, 5, none⟩ (.int .u64 an)).setCell ⟨gg, 6, none⟩ (.int .i64 ai)).setCell ⟨gg, 7, none⟩ (.int .u64 am)) := (Upd.setCell (ks := fun k => k = gg ∨ k = rb) (Upd.setCell (ks := fun k => k = gg ∨ k = rb) (Upd.setCell (ks := fun k => k = gg ∨ k = rb) (Upd.setCell (ks := fun k => k = gg ∨ k = rb) (Upd.refl _ _ _) (a := (⟨gg, 4, none⟩ : Addr)) (.inl (.inl rfl)) _) (a := (⟨gg, 5, none⟩ : Addr)) (.inl (.inl rfl)) _) (a := (⟨gg, 6, none⟩ : Addr)) (.inl (.inl rfl)) _) (a := (⟨gg, 7, none⟩ : Addr)) (.inl (.inl rfl)) _)
          have HZ := Lib.hid (And.intro (hz4) (And.intro (eb4) (And.intro (gr4) HS)))
          clear HS hz1 eb1 gr1 hz2 eb2 gr2 hz3 eb3 gr3 hz4 eb4 gr4 su1 su2 su3 su4
          go_wp2_with fail
          generalize hWX : ((((wc.setCell ⟨gg, 4, none⟩ (.int .i64 ao)).setCell ⟨gg, 5, none⟩ (.int .u64 an)).setCell ⟨gg, 6, none⟩ (.int .i64 ai)).setCell ⟨gg, 7, none⟩ (.int .u64 am)) = WX at HZ ⊢
          clear hWX k2 k0 r3 rz3 x0 xz0 x1 xz1 x2 xz2 x3 xz3 x4 xz4 x5 xz5 x6 xz6 x7 xz7 y0 y1 y2 y3
          refine (rset_any HZ.out.1 (⟨contact, false, name, groups, ⟨ao, an, ai, am⟩⟩ : Ent) _ HZ.out.2.2.1.strs HGL.out.1 HGL.out.2.1 HGL.out.2.2.1 (by have := HGL.out.2.2.2; have := HB2.out.size; have := HZ.out.2.2.2.size; omega)).mono ?_
          rintro e w6 ⟨rfl, hro6, hu6⟩
          have hl1 := blk_lt HX.out.b5
          have BX6 := blk_upd HZ.out.2.1 hu6 (blk_lt HZ.out.2.1) (by rintro (e | e); exact nrg e.symm; exact nmg e.symm)
          have T3 := blk_upd (blk_upd BOX2.out.b3 HZ.out.2.2.2 (blk_lt BOX2.out.b3) (by have := HGB.out; have := HGG.out.1; rintro (e | e) <;> omega)) hu6 (by have := HZ.out.2.2.2.size; have := blk_lt BOX2.out.b3; omega) (by have := HGB.out; rintro (e | e) <;> omega)
          have T4 := blk_upd (blk_upd BOX2.out.b4 HZ.out.2.2.2 (blk_lt BOX2.out.b4) (by have := HGB.out; have := HGG.out.1; rintro (e | e) <;> omega)) hu6 (by have := HZ.out.2.2.2.size; have := blk_lt BOX2.out.b4; omega) (by have := HGB.out; rintro (e | e) <;> omega)
          have T5 := blk_upd (blk_upd BOX2.out.b5 HZ.out.2.2.2 (blk_lt BOX2.out.b5) (by have := HGB.out; have := HGG.out.1; rintro (e | e) <;> omega)) hu6 (by have := HZ.out.2.2.2.size; have := blk_lt BOX2.out.b5; omega) (by have := HGB.out; rintro (e | e) <;> omega)
          have HU6 : Upd W.heap.size (fun k => k = rb ∨ k = mb ∨ k = g + 3 ∨ k = g + 4 ∨ k = g + 5) W w6 := act_upd HB2.out HZ.out.2.2.2 hu6 HGG.out.1
          have HF := Lib.hid (And.intro hro6 (And.intro HU6 (And.intro T3 (And.intro T4 T5))))
          have x1 : w6.cell? ⟨gg, 1, none⟩ = some (.bool false) := blk_cell BX6 1
          have t3 : w6.cell? ⟨g + 3, 0, none⟩ = some (.int .i64 0) := blk_cell T3 0
          have tz3 : w6.frozen? ⟨g + 3, 0, none⟩ = false := blk_frozen T3 0
          have t4 : w6.cell? ⟨g + 4, 0, none⟩ = some (.int .u64 0) := blk_cell T4 0
          have tz4 : w6.frozen? ⟨g + 4, 0, none⟩ = false := blk_frozen T4 0
          have t5 : w6.cell? ⟨g + 5, 0, none⟩ = some (.bool false) := blk_cell T5 0
          have tz5 : w6.frozen? ⟨g + 5, 0, none⟩ = false := blk_frozen T5 0
          clear hro6 hu6 BX6 T3 T4 T5 HU6 HZ
          go_wp2_with fail
          go_region
          all_goals
            go_wp2_with fail
            go_end0
            rw [HRS.out]
            exact ⟨rfl, act_fin HF.out.1 HF.out.2.1 HGB.out HF.out.2.2.1 HF.out.2.2.2.1 HF.out.2.2.2.2 _ _ _⟩
        · have hres : RES = .ok ((R : RS).set ⟨contact, true, name, groups, ⟨ao, an, ai, am⟩⟩, am2, an2, true) := by rw [← HRES.out.1, RS.act_do HRES.out.2.1 HRES.out.2.2.1 HRES.out.2.2.2.1 (by decide) HRES.out.2.2.2.2 hm (by rw [hkept]; simp), hkept]; rfl
          have hm1 : (am2 == 0) = false := by simpa using hm
          have HRS := Lib.hid hres
          clear hres hm HRES
          clear d1 d2 HKD
          subst hkept
          have HB2 := Lib.hid ((HIT2.out.1).trans (hb2.mono HIT2.out.1.size))
          have BOX2 := Lib.hid (BOX.out.below hb2)
          have RO2 := Lib.hid (RO.out.below hb2)
          have EB2 := Lib.hid (blk_below HIT2.out.2.2.1 hb2 (blk_lt HIT2.out.2.2.1))
          have GR2 := Lib.hid (HIT2.out.2.2.2.kept fun k cur hk _ => hb2.block k (blk_lt hk))
          have HBH2 := Lib.hid hbh
          have HGG := Lib.hid (And.intro HIT2.out.2.1 (Nat.le_trans HIT2.out.1.size hg2))
          have hne2 : gg ≠ g2 := by have := blk_lt HIT2.out.2.2.1; omega
          have HNE2 := Lib.hid hne2
          clear hb2 hbh hg2 hne2 BOX RO HIT2 lt1 lt2 lt3 lt4 r3 k2 k0 e4 e5 e6 e7
          have k2 : wc.cell? ⟨g + 2, 0, none⟩ = some (.int .i64 14) := blk_cell BOX2.out.b2 0
          have k0 : wc.cell? ⟨g, 0, none⟩ = some (.pointer (some ⟨rb, 0, none⟩)) := blk_cell BOX2.out.b0 0
          obtain ⟨x0, x1, x2, x3, x4, x5, x6, x7, xz0, xz1, xz2, xz3, xz4, xz5, xz6, xz7⟩ := cells8 (EB2.out)
          obtain ⟨y0, y1, y2, y3, _, _, _, _⟩ := cells4 (HBH2.out)
          have r3 : wc.cell? ⟨rb, 3, none⟩ = some (.int .u64 R.next) := blk_cell RO2.out.cells 3
          have rz3 : wc.frozen? ⟨rb, 3, none⟩ = false := blk_frozen RO2.out.cells 3
          have rlt := RO2.out.lt
          have hl5 := blk_lt HX.out.b5
          have ne_ggg2 : ¬ gg = g2 := by have := HGG.out; have := HGB.out; have := HNE2.out; omega
          have ne2_ggg2 : ¬ g2 = gg := fun e => ne_ggg2 e.symm
          have ne3_ggg2 : (gg == g2) = false := by simpa using ne_ggg2
          have ne_rbg2 : ¬ rb = g2 := by have := HGG.out; have := HGB.out; have := HNE2.out; omega
          have ne2_rbg2 : ¬ g2 = rb := fun e => ne_rbg2 e.symm
          have ne3_rbg2 : (rb == g2) = false := by simpa using ne_rbg2
          have ne_ggg : ¬ g = gg := by have := HGG.out; have := HGB.out; have := HNE2.out; omega
          have ne2_ggg : ¬ gg = g := fun e => ne_ggg e.symm
          have ne3_ggg : (g == gg) = false := by simpa using ne_ggg
          have ne_gp2gg : ¬ g + 2 = gg := by have := HGG.out; have := HGB.out; have := HNE2.out; omega
          have ne2_gp2gg : ¬ gg = g + 2 := fun e => ne_gp2gg e.symm
          have ne3_gp2gg : (g + 2 == gg) = false := by simpa using ne_gp2gg
          have ne_rbgg : ¬ rb = gg := by have := HGG.out; have := HGB.out; have := HNE2.out; omega
          have ne2_rbgg : ¬ gg = rb := fun e => ne_rbgg e.symm
          have ne3_rbgg : (rb == gg) = false := by simpa using ne_rbgg
          have ne_rbg : ¬ rb = g := by have := HGG.out; have := HGB.out; have := HNE2.out; omega
          have ne2_rbg : ¬ g = rb := fun e => ne_rbg e.symm
          have ne3_rbg : (rb == g) = false := by simpa using ne_rbg
          have ne_rbgp2 : ¬ rb = g + 2 := by have := HGG.out; have := HGB.out; have := HNE2.out; omega
          have ne2_rbgp2 : ¬ g + 2 = rb := fun e => ne_rbgp2 e.symm
          have ne3_rbgp2 : (rb == g + 2) = false := by simpa using ne_rbgp2
          have nrg : rb ≠ gg := by have := HGG.out.1; have := HGB.out; omega
          have nmg : mb ≠ gg := by have := HGG.out.1; have := HGB.out; omega
          have su1 : Upd wc.heap.size (fun k => k = gg) wc (wc.setCell ⟨gg, 4, none⟩ (.int .i64 ao)) := Upd.setCell (ks := fun k => k = gg) (Upd.refl _ _ _) (a := (⟨gg, 4, none⟩ : Addr)) (.inl rfl) _
          have hz1 := RoAtK.upd (RO2.out) su1 (Nat.le_refl _) nrg nmg (fun k cur hk _ e => by subst e; rw [EB2.out] at hk; simp at hk)
          have gr1 : Grp (wc.setCell ⟨gg, 4, none⟩ (.int .i64 ao)) W.heap.size (.slice A groups.length c) groups := (GR2.out).kept fun k cur hk _ => su1.block k (blk_lt hk) (fun e => by subst e; rw [EB2.out] at hk; simp at hk)
          have eb1 : (wc.setCell ⟨gg, 4, none⟩ (.int .i64 ao)).heap[gg]? = some (.cells #[.string contact, .bool true, .string name, .slice A groups.length c, .int .i64 ao, .int .u64 hn', .int .i64 i, .int .u64 m] 54) := blk_set_same (EB2.out) 4 _
          have su2 : Upd (wc.setCell ⟨gg, 4, none⟩ (.int .i64 ao)).heap.size (fun k => k = gg) (wc.setCell ⟨gg, 4, none⟩ (.int .i64 ao)) ((wc.setCell ⟨gg, 4, none⟩ (.int .i64 ao)).setCell ⟨gg, 5, none⟩ (.int .u64 an)) := Upd.setCell (ks := fun k => k = gg) (Upd.refl _ _ _) (a := (⟨gg, 5, none⟩ : Addr)) (.inl rfl) _
          have hz2 := RoAtK.upd (hz1) su2 (Nat.le_refl _) nrg nmg (fun k cur hk _ e => by subst e; rw [eb1] at hk; simp at hk)
          have gr2 : Grp ((wc.setCell ⟨gg, 4, none⟩ (.int .i64 ao)).setCell ⟨gg, 5, none⟩ (.int .u64 an)) W.heap.size (.slice A groups.length c) groups := (gr1).kept fun k cur hk _ => su2.block k (blk_lt hk) (fun e => by subst e; rw [eb1] at hk; simp at hk)
          have eb2 : ((wc.setCell ⟨gg, 4, none⟩ (.int .i64 ao)).setCell ⟨gg, 5, none⟩ (.int .u64 an)).heap[gg]? = some (.cells #[.string contact, .bool true, .string name, .slice A groups.length c, .int .i64 ao, .int .u64 an, .int .i64 i, .int .u64 m] 54) := blk_set_same (eb1) 5 _
          have su3 : Upd ((wc.setCell ⟨gg, 4, none⟩ (.int .i64 ao)).setCell ⟨gg, 5, none⟩ (.int .u64 an)).heap.size (fun k => k = gg) ((wc.setCell ⟨gg, 4, none⟩ (.int .i64 ao)).setCell ⟨gg, 5, none⟩ (.int .u64 an)) (((wc.setCell ⟨gg, 4, none⟩ (.int .i64 ao)).setCell ⟨gg, 5, none⟩ (.int .u64 an)).setCell ⟨gg, 6, none⟩ (.int .i64 ai)) := Upd.setCell (ks := fun k => k = gg) (Upd.refl _ _ _) (a := (⟨gg, 6, none⟩ : Addr)) (.inl rfl) _
          have hz3 := RoAtK.upd (hz2) su3 (Nat.le_refl _) nrg nmg (fun k cur hk _ e => by subst e; rw [eb2] at hk; simp at hk)
          have gr3 : Grp (((wc.setCell ⟨gg, 4, none⟩ (.int .i64 ao)).setCell ⟨gg, 5, none⟩ (.int .u64 an)).setCell ⟨gg, 6, none⟩ (.int .i64 ai)) W.heap.size (.slice A groups.length c) groups := (gr2).kept fun k cur hk _ => su3.block k (blk_lt hk) (fun e => by subst e; rw [eb2] at hk; simp at hk)
          have eb3 : (((wc.setCell ⟨gg, 4, none⟩ (.int .i64 ao)).setCell ⟨gg, 5, none⟩ (.int .u64 an)).setCell ⟨gg, 6, none⟩ (.int .i64 ai)).heap[gg]? = some (.cells #[.string contact, .bool true, .string name, .slice A groups.length c, .int .i64 ao, .int .u64 an, .int .i64 ai, .int .u64 m] 54) := blk_set_same (eb2) 6 _
          have su4 : Upd (((wc.setCell ⟨gg, 4, none⟩ (.int .i64 ao)).setCell ⟨gg, 5, none⟩ (.int .u64 an)).setCell ⟨gg, 6, none⟩ (.int .i64 ai)).heap.size (fun k => k = gg) (((wc.setCell ⟨gg, 4, none⟩ (.int .i64 ao)).setCell ⟨gg, 5, none⟩ (.int .u64 an)).setCell ⟨gg, 6, none⟩ (.int .i64 ai)) ((((wc.setCell ⟨gg, 4, none⟩ (.int .i64 ao)).setCell ⟨gg, 5, none⟩ (.int .u64 an)).setCell ⟨gg, 6, none⟩ (.int .i64 ai)).setCell ⟨gg, 7, none⟩ (.int .u64 am)) := Upd.setCell (ks := fun k => k = gg) (Upd.refl _ _ _) (a := (⟨gg, 7, none⟩ : Addr)) (.inl rfl) _
          have hz4 := RoAtK.upd (hz3) su4 (Nat.le_refl _) nrg nmg (fun k cur hk _ e => by subst e; rw [eb3] at hk; simp at hk)
          have gr4 : Grp ((((wc.setCell ⟨gg, 4, none⟩ (.int .i64 ao)).setCell ⟨gg, 5, none⟩ (.int .u64 an)).setCell ⟨gg, 6, none⟩ (.int .i64 ai)).setCell ⟨gg, 7, none⟩ (.int .u64 am)) W.heap.size (.slice A groups.length c) groups := (gr3).kept fun k cur hk _ => su4.block k (blk_lt hk) (fun e => by subst e; rw [eb3] at hk; simp at hk)
          have eb4 : ((((wc.setCell ⟨gg, 4, none⟩ (.int .i64 ao)).setCell ⟨gg, 5, none⟩ (.int .u64 an)).setCell ⟨gg, 6, none⟩ (.int .i64 ai)).setCell ⟨gg, 7, none⟩ (.int .u64 am)).heap[gg]? = some (.cells #[.string contact, .bool true, .string name, .slice A groups.length c, .int .i64 ao, .int .u64 an, .int .i64 ai, .int .u64 am] 54) := blk_set_same (eb3) 7 _
          have HS : Upd wc.heap.size (fun k => k = gg ∨ k = rb) wc ((((wc.setCell ⟨gg, 4, none⟩ (.int .i64 ao)).setCell ⟨gg, 5, none⟩ (.int .u64 an)).setCell ⟨gg, 6, none⟩ (.int .i64 ai)).setCell ⟨gg, 7, none⟩ (.int .u64 am)) := (Upd.setCell (ks := fun k => k = gg ∨ k = rb) (Upd.setCell (ks := fun k => k = gg ∨ k = rb) (Upd.setCell (ks := fun k => k = gg ∨ k = rb) (Upd.setCell (ks := fun k => k = gg ∨ k = rb) (Upd.refl _ _ _) (a := (⟨gg, 4, none⟩ : Addr)) (.inl (.inl rfl)) _) (a := (⟨gg, 5, none⟩ : Addr)) (.inl (.inl rfl)) _) (a := (⟨gg, 6, none⟩ : Addr)) (.inl (.inl rfl)) _) (a := (⟨gg, 7, none⟩ : Addr)) (.inl (.inl rfl)) _)
          have HZ := Lib.hid (And.intro (hz4) (And.intro (eb4) (And.intro (gr4) HS)))
          clear HS hz1 eb1 gr1 hz2 eb2 gr2 hz3 eb3 gr3 hz4 eb4 gr4 su1 su2 su3 su4
          go_wp2_with fail
          generalize hWX : ((((wc.setCell ⟨gg, 4, none⟩ (.int .i64 ao)).setCell ⟨gg, 5, none⟩ (.int .u64 an)).setCell ⟨gg, 6, none⟩ (.int .i64 ai)).setCell ⟨gg, 7, none⟩ (.int .u64 am)) = WX at HZ ⊢
          clear hWX k2 k0 r3 rz3 x0 xz0 x1 xz1 x2 xz2 x3 xz3 x4 xz4 x5 xz5 x6 xz6 x7 xz7 y0 y1 y2 y3
          refine (rset_any HZ.out.1 (⟨contact, true, name, groups, ⟨ao, an, ai, am⟩⟩ : Ent) _ HZ.out.2.2.1.strs HGL.out.1 HGL.out.2.1 HGL.out.2.2.1 (by have := HGL.out.2.2.2; have := HB2.out.size; have := HZ.out.2.2.2.size; omega)).mono ?_
          rintro e w6 ⟨rfl, hro6, hu6⟩
          have hl1 := blk_lt HX.out.b5
          have BX6 := blk_upd HZ.out.2.1 hu6 (blk_lt HZ.out.2.1) (by rintro (e | e); exact nrg e.symm; exact nmg e.symm)
          have T3 := blk_upd (blk_upd BOX2.out.b3 HZ.out.2.2.2 (blk_lt BOX2.out.b3) (by have := HGB.out; have := HGG.out.1; rintro (e | e) <;> omega)) hu6 (by have := HZ.out.2.2.2.size; have := blk_lt BOX2.out.b3; omega) (by have := HGB.out; rintro (e | e) <;> omega)
          have T4 := blk_upd (blk_upd BOX2.out.b4 HZ.out.2.2.2 (blk_lt BOX2.out.b4) (by have := HGB.out; have := HGG.out.1; rintro (e | e) <;> omega)) hu6 (by have := HZ.out.2.2.2.size; have := blk_lt BOX2.out.b4; omega) (by have := HGB.out; rintro (e | e) <;> omega)
          have T5 := blk_upd (blk_upd BOX2.out.b5 HZ.out.2.2.2 (blk_lt BOX2.out.b5) (by have := HGB.out; have := HGG.out.1; rintro (e | e) <;> omega)) hu6 (by have := HZ.out.2.2.2.size; have := blk_lt BOX2.out.b5; omega) (by have := HGB.out; rintro (e | e) <;> omega)
          have HU6 : Upd W.heap.size (fun k => k = rb ∨ k = mb ∨ k = g + 3 ∨ k = g + 4 ∨ k = g + 5) W w6 := act_upd HB2.out HZ.out.2.2.2 hu6 HGG.out.1
          have HF := Lib.hid (And.intro hro6 (And.intro HU6 (And.intro T3 (And.intro T4 T5))))
          have x1 : w6.cell? ⟨gg, 1, none⟩ = some (.bool true) := blk_cell BX6 1
          have t3 : w6.cell? ⟨g + 3, 0, none⟩ = some (.int .i64 0) := blk_cell T3 0
          have tz3 : w6.frozen? ⟨g + 3, 0, none⟩ = false := blk_frozen T3 0
          have t4 : w6.cell? ⟨g + 4, 0, none⟩ = some (.int .u64 0) := blk_cell T4 0
          have tz4 : w6.frozen? ⟨g + 4, 0, none⟩ = false := blk_frozen T4 0
          have t5 : w6.cell? ⟨g + 5, 0, none⟩ = some (.bool false) := blk_cell T5 0
          have tz5 : w6.frozen? ⟨g + 5, 0, none⟩ = false := blk_frozen T5 0
          clear hro6 hu6 BX6 T3 T4 T5 HU6 HZ
          go_wp2_with fail
          go_region
          all_goals
            go_wp2_with fail
            go_end0
            rw [HRS.out]
            exact ⟨rfl, act_fin HF.out.1 HF.out.2.1 HGB.out HF.out.2.2.1 HF.out.2.2.2.1 HF.out.2.2.2.2 _ _ _⟩


theorem act1_any {W : World} {B rb mb n : Nat} {D : DataW Value} {R : RS} (h : RoAt W B rb mb n D R) (hT : Tabs W) (g : Nat) (s : ByteArray) (k : Int) (hs : s.size ≤ 9223372036854775807) (hx : ActBox W g rb s k 0 0 false) (hn : n ≤ 1000000) (hB : B ≤ W.heap.size) (hg : rb < g ∧ mb < g) (hn0 : 0 ≤ R.next) (hn1 : R.next < 18446744073709551615) :
    Calls Tryz.prog 68 (actCaps g) W fun e w' => ActPost W B rb mb n g (R.act s k) e w' := by
  by_cases hE : (localS s).2 = 0
  · exact act1_go h hT g s k hs hx hE hn hB hg hn0 hn1 _ rfl
  · refine (act1_name h hT g s k hs hx hE).mono fun e w' he => ?_
    rw [RS.act_name hE]
    exact he

end Go.Proofs.YthbjcihdlhkboaaGreatDoor
