/- Put, as a whole. -/
import Derived.Test.YthbjcihdlhkboaaGreatDoorRi5
namespace Go.Proofs.YthbjcihdlhkboaaGreatDoor
set_option linter.unusedSimpArgs false
set_option linter.unusedVariables false
open Go.RowKit Go.Maps Go.Shelf Go.Lib

/-- The world at the head of what is tried. -/
abbrev putW (w : World) (rb : Nat) (s l : ByteArray) (v : Value) : World :=
  ((((w.alloc (.cells #[.pointer (some ⟨rb, 0, none⟩)] 42)).alloc (.cells #[.string s] 9)).alloc (.cells #[.string l] 9)).alloc (.cells #[v] 32)).alloc (entC Ent.zero (.slice none 0 0))
theorem putW_size (w : World) (rb : Nat) (s l : ByteArray) (v : Value) : (putW w rb s l v).heap.size = w.heap.size + 5 := by simp
theorem putW_below (w : World) (rb : Nat) (s l : ByteArray) (v : Value) : Below w.heap.size w (putW w rb s l v) :=
  ((((((Below.refl _ _).alloc (Nat.le_refl _) _).alloc (by simp) _).alloc (by simp <;> omega) _).alloc (by simp <;> omega) _).alloc (by simp <;> omega) _)
theorem putW_box (w : World) (rb : Nat) (s l : ByteArray) (v : Value) : PutBox (putW w rb s l v) w.heap.size rb s l v Ent.zero (.slice none 0 0) where
  b0 := blk_alloc (blk_alloc (blk_alloc (blk_alloc (blk_new _ _) _) _) _) _
  b1 := blk_alloc (blk_alloc (blk_alloc (blk_new' _ (by simp)) _) _) _
  b2 := blk_alloc (blk_alloc (blk_new' _ (by simp)) _) _
  b3 := blk_alloc (blk_new' _ (by simp)) _
  b4 := blk_new' _ (by simp)

/-- What Put leaves. -/
structure PutEnd (w w' : World) (B rb mb n : Nat) (R : RS) (e : Ent) : Prop where
  ro : AnyRo w w' B rb mb n R
  upd : Upd w.heap.size (fun k => k = rb ∨ k = mb) w w'
  b4 : ∃ A c, w'.heap[w.heap.size + 4]? = some (entC e (.slice A e.groups.length c)) ∧ Grp w' w.heap.size (.slice A e.groups.length c) e.groups

/-- What is tried of a Put. -/
theorem put_tried {w : World} {B rb mb n : Nat} {D : DataW Value} {R : RS} (h : RoAt w B rb mb n D R) (hT : Tabs w) (s l : ByteArray) (v : Value) (gs : List ByteArray) (hs : s.size ≤ 9223372036854775807) (hl : l.size ≤ 9223372036854775807) (hv : Strs w v gs) (hgl : gs.length ≤ 1000000) (hgs : ∀ g ∈ gs, g.size ≤ 9223372036854775807)
    (hn : n ≤ 1000000) (hB : B ≤ w.heap.size) (hv0 : 0 ≤ R.ver) (hv1 : R.ver < 18446744073709551615) :
    Calls Tryz.prog 58 #[.func (.func 59) #[] (putCaps w.heap.size)] (putW w rb s l v) fun e w' =>
      e = .returned (.int .i64 (R.putAll s l gs).2.2) ∧ PutEnd w w' B rb mb (n + 1) (R.putAll s l gs).1 (R.putAll s l gs).2.1 := by
  have hE : ∀ args w, (callFunc 59 args).run Tryz.prog w = .ok (.enter 59 args) w := enters_of Tryz.func59 (by kernel_rfl) rfl
  have hbA := putW_below w rb s l v
  have hsz := putW_size w rb s l v
  have hbx := putW_box w rb s l v
  generalize putW w rb s l v = WA at *
  obtain ⟨E, hEe⟩ : ∃ E, (Obj.cells #[.int .i64 0] 24) = E := ⟨_, rfl⟩
  have hbE : Below WA.heap.size WA (WA.alloc E) := (Below.refl _ _).alloc (Nat.le_refl _) _
  have hbWE : Below w.heap.size w (WA.alloc E) := hbA.trans (hbE.mono (by omega))
  have hszE : (WA.alloc E).heap.size = w.heap.size + 6 := by simp; omega
  have hlt := h.lt
  have hC := put1_any (h.below hbWE) (hT.later hbWE) w.heap.size s l v gs hs hl (hv.below hbWE) hgl hgs (hbx.below hbE) hn (by omega) hlt hv0 hv1
  have hbox : (WA.alloc E).heap[WA.heap.size]? = some E := blk_new _ _
  have hun : (R.putAll s l gs).2.2 ≠ 0 → (R.putAll s l gs).1 = R ∧ (R.putAll s l gs).2.1 = Ent.zero := by
    unfold RS.putAll
    repeat' split
    all_goals simp
  generalize R.putAll s l gs = X at *
  obtain ⟨R', x, c⟩ := X
  simp only at hC hun ⊢
  by_cases hc : c = 0
  · subst hc
    subst hEe
    refine (tries_ok 59 (putCaps w.heap.size) WA (fun w' => PutDone (WA.alloc (.cells #[.int .i64 0] 24)) w' B rb mb n w.heap.size R' x) hE (hC.mono fun e w' hp => ?_)).mono ?_
    · rcases hp with ⟨h0, _⟩ | ⟨_, a, b⟩
      · exact absurd rfl h0
      · exact ⟨a, blk_upd hbox b.upd (blk_lt hbox) (by rintro (e | e | e) <;> omega), b⟩
    · rintro e w' ⟨rfl, w1, hd, hx1, rfl⟩
      have hu : Upd w1.heap.size (fun k => k = WA.heap.size) w1 (w1.setCell ⟨WA.heap.size, 0, none⟩ (.int .i64 0)) := Upd.setCell (ks := fun k => k = WA.heap.size) (Upd.refl _ _ _) (a := (⟨WA.heap.size, 0, none⟩ : Addr)) (.inl rfl) _
      obtain ⟨A, cc, hb4, hg4⟩ := hd.b4
      refine ⟨rfl, ?_, ?_, A, cc, ?_, ?_⟩
      · obtain ⟨n', D', hn', hro⟩ := hd.ro
        refine ⟨n', D', hn', RoAtK.upd hro hu (Nat.le_refl _) (by omega) (by omega) ?_⟩
        rintro k cur hk _ e
        subst e
        rw [hx1] at hk
        simp at hk
      · exact (upd_of_boxes hbWE hd.upd (by omega) (by rintro k (e | e | e); exact .inl e; exact .inr (.inl e); exact .inr (.inr (by omega)))).setCell (.inr (by show w.heap.size ≤ WA.heap.size; omega)) _
      · exact blk_set_other hb4 _ (by show w.heap.size + 4 ≠ WA.heap.size; omega)
      · refine (hg4.lower (by omega)).kept (fun k cur hk _ => Below.heap_setCell _ _ _ k ?_)
        rintro rfl
        rw [hx1] at hk
        simp at hk
  · obtain ⟨hR, hx⟩ := hun hc
    subst hR
    subst hx
    subst hEe
    refine (tries_no 59 (putCaps w.heap.size) WA c (fun w' => Below (WA.alloc (.cells #[.int .i64 0] 24)).heap.size (WA.alloc (.cells #[.int .i64 0] 24)) w') hE (hC.mono fun e w' hp => ?_)).mono ?_
    · rcases hp with ⟨_, a, b⟩ | ⟨h0, _⟩
      · exact ⟨a, blk_below hbox b (blk_lt hbox), b⟩
      · exact absurd h0 hc
    · rintro e w' ⟨rfl, w1, hb1, hx1, rfl⟩
      have hb2 : Below w.heap.size w w1 := hbWE.trans (hb1.mono (by omega))
      have hu : Upd w1.heap.size (fun k => k = WA.heap.size) w1 (w1.setCell ⟨WA.heap.size, 0, none⟩ (.int .i64 c)) := Upd.setCell (ks := fun k => k = WA.heap.size) (Upd.refl _ _ _) (a := (⟨WA.heap.size, 0, none⟩ : Addr)) (.inl rfl) _
      refine ⟨rfl, ⟨n, D, Nat.le_succ _, ?_⟩, Upd.of_below (Below.setCell hb2 (by show w.heap.size ≤ WA.heap.size; omega) _) (Nat.le_refl _), none, 0, ?_, Grp.nil _ _⟩
      · refine RoAtK.upd (h.below hb2) hu (Nat.le_refl _) (by omega) (by omega) ?_
        rintro k cur hk _ e
        subst e
        rw [hx1] at hk
        simp at hk
      · exact blk_set_other (blk_below (blk_alloc hbx.b4 _) hb1 (by simp; omega)) _ (by show w.heap.size + 4 ≠ WA.heap.size; omega)

/-- The box of Put's result is written with what it holds. -/
theorem put_fin {w w1 : World} {B rb mb n b : Nat} {R' : RS} {contact name : ByteArray} {kept : Bool} {groups : List ByteArray} {o hn2 i m : Int} {A : Option Addr} {cc : Nat} (hro : AnyRo w w1 B rb mb n R') (hupd : Upd w.heap.size (fun k => k = rb ∨ k = mb) w w1) (hlt : rb < w.heap.size ∧ mb < w.heap.size) (hbb : w.heap.size ≤ b)
    (hb4 : w1.heap[b]? = some (entC ⟨contact, kept, name, groups, ⟨o, hn2, i, m⟩⟩ (.slice A groups.length cc))) (hg4 : Grp w1 w.heap.size (.slice A groups.length cc) groups) :
    ∃ WW, ((((((((w1.setCell ⟨b, 0, none⟩ (.string contact)).setCell ⟨b, 1, none⟩ (.bool kept)).setCell ⟨b, 2, none⟩ (.string name)).setCell ⟨b, 3, none⟩ (.slice A groups.length cc)).setCell ⟨b, 4, none⟩ (.int .i64 o)).setCell ⟨b, 5, none⟩ (.int .u64 hn2)).setCell ⟨b, 6, none⟩ (.int .i64 i)).setCell ⟨b, 7, none⟩ (.int .u64 m)) = WW ∧ Grp WW w.heap.size (.slice A groups.length cc) groups ∧ AnyRo w WW B rb mb n R' ∧ Upd w.heap.size (fun k => k = rb ∨ k = mb) w WW ∧ WW.heap[b]? = some (entC ⟨contact, kept, name, groups, ⟨o, hn2, i, m⟩⟩ (.slice A groups.length cc)) := by
  have hs8 : Upd w1.heap.size (fun k => k = b) w1 ((((((((w1.setCell ⟨b, 0, none⟩ (.string contact)).setCell ⟨b, 1, none⟩ (.bool kept)).setCell ⟨b, 2, none⟩ (.string name)).setCell ⟨b, 3, none⟩ (.slice A groups.length cc)).setCell ⟨b, 4, none⟩ (.int .i64 o)).setCell ⟨b, 5, none⟩ (.int .u64 hn2)).setCell ⟨b, 6, none⟩ (.int .i64 i)).setCell ⟨b, 7, none⟩ (.int .u64 m)) := upd_set8 (b := b) (ks := fun k => k = b) (Upd.refl _ _ _) (.inl rfl) _ _ _ _ _ _ _ _
  have hb8 := blk_set8 hb4 (.string contact) (.bool kept) (.string name) (.slice A groups.length cc) (.int .i64 o) (.int .u64 hn2) (.int .i64 i) (.int .u64 m)
  have hz := hupd.size
  refine ⟨_, rfl, hg4.kept fun k cur hk _ => hs8.block k (blk_lt hk) (fun e => ?_), ?_, hupd.comp hs8 hz (fun k hk e => by omega), hb8⟩
  · subst e
    rw [hb4] at hk
    simp at hk
  · obtain ⟨n', D', hn', hro⟩ := hro
    refine ⟨n', D', hn', RoAtK.upd hro hs8 (Nat.le_refl _) (by omega) (by omega) (fun k cur hk _ e => ?_)⟩
    subst e
    rw [hb4] at hk
    simp at hk

set_option maxRecDepth 100000 in
set_option maxHeartbeats 8000000 in
theorem rput_any {w : World} {B rb mb n : Nat} {D : DataW Value} {R : RS} (h : RoAt w B rb mb n D R) (hT : Tabs w) (s l : ByteArray) (v : Value) (gs : List ByteArray) (hs : s.size ≤ 9223372036854775807) (hl : l.size ≤ 9223372036854775807) (hv : Strs w v gs) (hgl : gs.length ≤ 1000000) (hgs : ∀ g ∈ gs, g.size ≤ 9223372036854775807)
    (hn : n ≤ 1000000) (hB : B ≤ w.heap.size) (hv0 : 0 ≤ R.ver) (hv1 : R.ver < 18446744073709551615) :
    Calls Tryz.prog 21 #[.pointer (some ⟨rb, 0, none⟩), .string s, .string l, v] w fun e w' =>
      (∃ A c, e = .returned (.tuple #[(R.putAll s l gs).2.1.val (.slice A (R.putAll s l gs).2.1.groups.length c), .int .i64 (R.putAll s l gs).2.2]) ∧ Grp w' w.heap.size (.slice A (R.putAll s l gs).2.1.groups.length c) (R.putAll s l gs).2.1.groups) ∧
      AnyRo w w' B rb mb (n + 1) (R.putAll s l gs).1 ∧ Upd w.heap.size (fun k => k = rb ∨ k = mb) w w' := by
  have C := put_tried h hT s l v gs hs hl hv hgl hgs hn hB hv0 hv1
  obtain ⟨VA, vc, rfl⟩ : ∃ A c, v = .slice A gs.length c := let ⟨⟨A, cap, h, _⟩, _⟩ := hv; ⟨A, cap, h⟩
  have hlt := h.lt
  generalize R.putAll s l gs = X at *
  obtain ⟨R', ⟨contact, kept, name, groups, ⟨o, hn2, i, m⟩⟩, c⟩ := X
  have HC := Lib.hid C
  have hmf : ∀ (fn : Fn) (first cap : Array Value) (w : World), (Instr.makeFunc fn first cap).run Tryz.prog w = .ok (.func fn first cap) w := fun _ _ _ _ => rfl
  simp only at HC ⊢
  clear C h hT hv hgs
  go_enter Tryz.func21, Tryz.ntmps21
  go_wp2_with fail
  refine HC.out.mono ?_
  rintro e w1 ⟨rfl, hE⟩
  obtain ⟨A, cc, hb4, hg4⟩ := hE.b4
  obtain ⟨x0, x1, x2, x3, x4, x5, x6, x7, f0, f1, f2, f3, f4, f5, f6, f7⟩ := cells8 hb4
  have HEE := Lib.hid (And.intro hE (And.intro hb4 hg4))
  clear hE hb4 hg4
  go_wp2_with fail
  obtain ⟨WW, hWW, h2, h3, h4, h5⟩ := put_fin HEE.out.1.ro HEE.out.1.upd hlt (b := w.heap.size + 1 + 1 + 1 + 1) (by omega) HEE.out.2.1 HEE.out.2.2
  rw [hWW]
  obtain ⟨j0, j1, j2, j3, j4, j5, j6, j7, _⟩ := cells8 h5
  have HFIN := Lib.hid (And.intro h2 (And.intro h3 h4))
  clear hWW h2 h3 h4 h5 HEE x0 x1 x2 x3 x4 x5 x6 x7 f0 f1 f2 f3 f4 f5 f6 f7 HC
  simp [bodyPost, results, Tryz.results21, go_sem, j0, j1, j2, j3, j4, j5, j6, j7]
  exact ⟨⟨A, cc, ⟨rfl, rfl⟩, HFIN.out.1⟩, HFIN.out.2⟩

end Go.Proofs.YthbjcihdlhkboaaGreatDoor
