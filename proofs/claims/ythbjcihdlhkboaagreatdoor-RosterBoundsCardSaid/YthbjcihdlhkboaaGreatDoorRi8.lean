/- Drop, as a whole. -/
import Derived.Test.YthbjcihdlhkboaaGreatDoorRi7
namespace Go.Proofs.YthbjcihdlhkboaaGreatDoor
set_option linter.unusedSimpArgs false
set_option linter.unusedVariables false
open Go.RowKit Go.Maps Go.Shelf Go.Lib

/-- The world at the head of what is tried. -/
abbrev dropW (w : World) (rb : Nat) (s : ByteArray) : World :=
  ((w.alloc (.cells #[.pointer (some ⟨rb, 0, none⟩)] 42)).alloc (.cells #[.string s] 9)).alloc (entC Ent.zero (.slice none 0 0))
theorem dropW_size (w : World) (rb : Nat) (s : ByteArray) : (dropW w rb s).heap.size = w.heap.size + 3 := by simp
theorem dropW_below (w : World) (rb : Nat) (s : ByteArray) : Below w.heap.size w (dropW w rb s) :=
  ((((Below.refl _ _).alloc (Nat.le_refl _) _).alloc (by simp) _).alloc (by simp <;> omega) _)
theorem dropW_box (w : World) (rb : Nat) (s : ByteArray) : DropBox (dropW w rb s) w.heap.size rb s Ent.zero (.slice none 0 0) where
  b0 := blk_alloc (blk_alloc (blk_new _ _) _) _
  b1 := blk_alloc (blk_new' _ (by simp)) _
  b2 := blk_new' _ (by simp)

/-- What Drop leaves. -/
structure DropEnd (w w' : World) (B rb mb n : Nat) (R : RS) (e : Ent) : Prop where
  ro : AnyRo w w' B rb mb n R
  upd : Upd w.heap.size (fun k => k = rb ∨ k = mb) w w'
  b2 : ∃ A c, w'.heap[w.heap.size + 2]? = some (entC e (.slice A e.groups.length c)) ∧ Grp w' w.heap.size (.slice A e.groups.length c) e.groups

/-- What is tried of a Drop. -/
theorem drop_tried {w : World} {B rb mb n : Nat} {D : DataW Value} {R : RS} (h : RoAt w B rb mb n D R) (hT : Tabs w) (s : ByteArray) (hs : s.size ≤ 9223372036854775807)
    (hn : n ≤ 1000000) (hB : B ≤ w.heap.size) (hv0 : 0 ≤ R.ver) (hv1 : R.ver < 18446744073709551615) :
    Calls Tryz.prog 58 #[.func (.func 66) #[] (dropCaps w.heap.size)] (dropW w rb s) fun e w' =>
      e = .returned (.int .i64 (R.dropAll s).2.2) ∧ DropEnd w w' B rb mb (n + 1) (R.dropAll s).1 (R.dropAll s).2.1 := by
  have hE : ∀ args w, (callFunc 66 args).run Tryz.prog w = .ok (.enter 66 args) w := enters_of Tryz.func66 (by kernel_rfl) rfl
  have hbA := dropW_below w rb s
  have hsz := dropW_size w rb s
  have hbx := dropW_box w rb s
  generalize dropW w rb s = WA at *
  obtain ⟨E, hEe⟩ : ∃ E, (Obj.cells #[.int .i64 0] 24) = E := ⟨_, rfl⟩
  have hbE : Below WA.heap.size WA (WA.alloc E) := (Below.refl _ _).alloc (Nat.le_refl _) _
  have hbWE : Below w.heap.size w (WA.alloc E) := hbA.trans (hbE.mono (by omega))
  have hszE : (WA.alloc E).heap.size = w.heap.size + 4 := by simp; omega
  have hlt := h.lt
  have hC := drop1_any (h.below hbWE) (hT.later hbWE) w.heap.size s hs (hbx.below hbE) hn (by omega) hlt hv0 hv1
  have hbox : (WA.alloc E).heap[WA.heap.size]? = some E := blk_new _ _
  have hun : (R.dropAll s).2.2 ≠ 0 → (R.dropAll s).1 = R ∧ (R.dropAll s).2.1 = Ent.zero := by
    unfold RS.dropAll
    repeat' split
    all_goals simp
  generalize R.dropAll s = X at *
  obtain ⟨R', x, c⟩ := X
  simp only at hC hun ⊢
  by_cases hc : c = 0
  · subst hc
    subst hEe
    refine (tries_ok 66 (dropCaps w.heap.size) WA (fun w' => DropDone (WA.alloc (.cells #[.int .i64 0] 24)) w' B rb mb n w.heap.size R' x) hE (hC.mono fun e w' hp => ?_)).mono ?_
    · rcases hp with ⟨h0, _⟩ | ⟨_, a, b⟩
      · exact absurd rfl h0
      · exact ⟨a, blk_upd hbox b.upd (blk_lt hbox) (by rintro (e | e | e) <;> omega), b⟩
    · rintro e w' ⟨rfl, w1, hd, hx1, rfl⟩
      have hu : Upd w1.heap.size (fun k => k = WA.heap.size) w1 (w1.setCell ⟨WA.heap.size, 0, none⟩ (.int .i64 0)) := Upd.setCell (ks := fun k => k = WA.heap.size) (Upd.refl _ _ _) (a := (⟨WA.heap.size, 0, none⟩ : Addr)) (.inl rfl) _
      obtain ⟨A, cc, hb4, hg4⟩ := hd.b2
      refine ⟨rfl, ?_, ?_, A, cc, ?_, ?_⟩
      · obtain ⟨n', D', hn', hro⟩ := hd.ro
        refine ⟨n', D', hn', RoAtK.upd hro hu (Nat.le_refl _) (by omega) (by omega) ?_⟩
        rintro k cur hk _ e
        subst e
        rw [hx1] at hk
        simp at hk
      · exact (upd_of_boxes hbWE hd.upd (by omega) (by rintro k (e | e | e); exact .inl e; exact .inr (.inl e); exact .inr (.inr (by omega)))).setCell (.inr (by show w.heap.size ≤ WA.heap.size; omega)) _
      · exact blk_set_other hb4 _ (by show w.heap.size + 2 ≠ WA.heap.size; omega)
      · refine (hg4.lower (by omega)).kept (fun k cur hk _ => Below.heap_setCell _ _ _ k ?_)
        rintro rfl
        rw [hx1] at hk
        simp at hk
  · obtain ⟨hR, hx⟩ := hun hc
    subst hR
    subst hx
    subst hEe
    refine (tries_no 66 (dropCaps w.heap.size) WA c (fun w' => Below (WA.alloc (.cells #[.int .i64 0] 24)).heap.size (WA.alloc (.cells #[.int .i64 0] 24)) w') hE (hC.mono fun e w' hp => ?_)).mono ?_
    · rcases hp with ⟨_, a, b⟩ | ⟨h0, _⟩
      · exact ⟨a, blk_below hbox b (blk_lt hbox), b⟩
      · exact absurd h0 hc
    · rintro e w' ⟨rfl, w1, hb1, hx1, rfl⟩
      have hb2 : Below w.heap.size w w1 := hbWE.trans (hb1.mono (by omega))
      have hu : Upd w1.heap.size (fun k => k = WA.heap.size) w1 (w1.setCell ⟨WA.heap.size, 0, none⟩ (.int .i64 c)) := Upd.setCell (ks := fun k => k = WA.heap.size) (Upd.refl _ _ _) (a := (⟨WA.heap.size, 0, none⟩ : Addr)) (.inl rfl) _
      refine ⟨rfl, ⟨n, D, Nat.le_succ _, ?_⟩, Upd.of_below (Below.setCell hb2 (by show w.heap.size ≤ WA.heap.size; omega) _) (Nat.le_refl _), none, 0, ?_, Grp.nil _ _⟩
      · refine RoAtK.upd (h.below hb2) hu (Nat.le_refl _) (by omega) (by omega) ?_
        rintro k cur hk _ e
        subst e
        rw [hx1] at hk
        simp at hk
      · exact blk_set_other (blk_below (blk_alloc hbx.b2 _) hb1 (by simp; omega)) _ (by show w.heap.size + 2 ≠ WA.heap.size; omega)

set_option maxRecDepth 100000 in
set_option maxHeartbeats 8000000 in
theorem rdrop_any {w : World} {B rb mb n : Nat} {D : DataW Value} {R : RS} (h : RoAt w B rb mb n D R) (hT : Tabs w) (s : ByteArray) (hs : s.size ≤ 9223372036854775807)
    (hn : n ≤ 1000000) (hB : B ≤ w.heap.size) (hv0 : 0 ≤ R.ver) (hv1 : R.ver < 18446744073709551615) :
    Calls Tryz.prog 24 #[.pointer (some ⟨rb, 0, none⟩), .string s] w fun e w' =>
      (∃ A c, e = .returned (.tuple #[(R.dropAll s).2.1.val (.slice A (R.dropAll s).2.1.groups.length c), .int .i64 (R.dropAll s).2.2]) ∧ Grp w' w.heap.size (.slice A (R.dropAll s).2.1.groups.length c) (R.dropAll s).2.1.groups) ∧
      AnyRo w w' B rb mb (n + 1) (R.dropAll s).1 ∧ Upd w.heap.size (fun k => k = rb ∨ k = mb) w w' := by
  have C := drop_tried h hT s hs hn hB hv0 hv1
  have hlt := h.lt
  generalize R.dropAll s = X at *
  obtain ⟨R', ⟨contact, kept, name, groups, ⟨o, hn2, i, m⟩⟩, c⟩ := X
  have HC := Lib.hid C
  have hmf : ∀ (fn : Fn) (first cap : Array Value) (w : World), (Instr.makeFunc fn first cap).run Tryz.prog w = .ok (.func fn first cap) w := fun _ _ _ _ => rfl
  simp only at HC ⊢
  clear C h hT
  go_enter Tryz.func24, Tryz.ntmps24
  go_wp2_with fail
  refine HC.out.mono ?_
  rintro e w1 ⟨rfl, hE⟩
  obtain ⟨A, cc, hb4, hg4⟩ := hE.b2
  obtain ⟨x0, x1, x2, x3, x4, x5, x6, x7, f0, f1, f2, f3, f4, f5, f6, f7⟩ := cells8 hb4
  have HEE := Lib.hid (And.intro hE (And.intro hb4 hg4))
  clear hE hb4 hg4
  go_wp2_with fail
  obtain ⟨WW, hWW, h2, h3, h4, h5⟩ := put_fin HEE.out.1.ro HEE.out.1.upd hlt (b := w.heap.size + 1 + 1) (by omega) HEE.out.2.1 HEE.out.2.2
  rw [hWW]
  obtain ⟨j0, j1, j2, j3, j4, j5, j6, j7, _⟩ := cells8 h5
  have HFIN := Lib.hid (And.intro h2 (And.intro h3 h4))
  clear hWW h2 h3 h4 h5 HEE x0 x1 x2 x3 x4 x5 x6 x7 f0 f1 f2 f3 f4 f5 f6 f7 HC
  simp [bodyPost, results, Tryz.results24, go_sem, j0, j1, j2, j3, j4, j5, j6, j7]
  exact ⟨⟨A, cc, ⟨rfl, rfl⟩, HFIN.out.1⟩, HFIN.out.2⟩

end Go.Proofs.YthbjcihdlhkboaaGreatDoor
