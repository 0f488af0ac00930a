/- Hear, as a whole. -/
import Derived.Test.YthbjcihdlhkboaaDoorRo8
namespace Go.Proofs.YthbjcihdlhkboaaDoor
set_option linter.unusedSimpArgs false
set_option linter.unusedVariables false
open Go.RowKit Go.Maps Go.Shelf Go.Lib

theorem RS.hear_ver {R : RS} {s : ByteArray} {k nn : Int} {r : RS × Int × Bool × Bool} (h : R.hear s k nn = .ok r) : r.1.ver = R.ver := by
  unfold RS.hear at h
  split at h
  · split at h
    · cases h
    · split at h
      · simp only [Except.ok.injEq] at h; subst h; rfl
      · simp only [Except.ok.injEq] at h; subst h
        exact (RS.set_ver _ _).1
  · cases h

/-- A mail: the new roster; the answer. -/
def RS.hearAll (R : RS) (s : ByteArray) (k nn : Int) : RS × Int × Bool × Bool × Int :=
  match R.hear s k nn with
  | .error c => (R, 0, false, false, c)
  | .ok (R', t, dn, ch) => (if ch then { R' with ver := R'.ver + 1 } else R', t, dn, ch, 0)

/-- The world at the head of what is tried: the five variables, and the error. -/
abbrev hearW (w : World) (rb : Nat) (s : ByteArray) (k nn : Int) : World :=
  ((((w.alloc (.cells #[.pointer (some ⟨rb, 0, none⟩)] 23)).alloc (.cells #[.string s] 9)).alloc (.cells #[.int .i64 k] 3)).alloc (.cells #[.int .u64 nn] 34)).alloc (.cells #[.int .i64 0, .bool false, .bool false] 40)
theorem hearW_size (w : World) (rb : Nat) (s : ByteArray) (k nn : Int) : (hearW w rb s k nn).heap.size = w.heap.size + 5 := by simp
theorem hearW_below (w : World) (rb : Nat) (s : ByteArray) (k nn : Int) : Below w.heap.size w (hearW w rb s k nn) :=
  ((((((Below.refl _ _).alloc (Nat.le_refl _) _).alloc (by simp) _).alloc (by simp <;> omega) _).alloc (by simp <;> omega) _).alloc (by simp <;> omega) _)
theorem hearW_box (w : World) (rb : Nat) (s : ByteArray) (k nn : Int) : HearBox (hearW w rb s k nn) w.heap.size rb s k nn 0 false false where
  b0 := blk_alloc (blk_alloc (blk_alloc (blk_alloc (blk_new _ _) _) _) _) _
  b1 := blk_alloc (blk_alloc (blk_alloc (blk_new' _ (by simp)) _) _) _
  b2 := blk_alloc (blk_alloc (blk_new' _ (by simp)) _) _
  b3 := blk_alloc (blk_new' _ (by simp)) _
  b4 := blk_new' _ (by simp)

set_option maxRecDepth 100000 in
set_option maxHeartbeats 8000000 in
/-- What is tried of a mail. -/
theorem hear_tried {w : World} {B rb mb n : Nat} {D : DataW Value} {R : RS} (h : RoAt w B rb mb n D R) (hT : Tabs w) (s : ByteArray) (k nn : Int) (hs : s.size ≤ 9223372036854775807) (hn : n ≤ 1000000) (hB : B ≤ w.heap.size) :
    Calls Tryd.prog 25 #[.func (.func 33) #[] (hearCaps w.heap.size)] (hearW w rb s k nn) fun e w' =>
      match R.hear s k nn with
      | .error c => e = .returned (.int .i64 c) ∧ RoAt w' B rb mb n D R ∧ Below w.heap.size w w' ∧ HearBox w' w.heap.size rb s k nn 0 false false
      | .ok r => e = .returned (.int .i64 0) ∧ (∃ n' D', n' ≤ n + 1 ∧ RoAt w' B rb mb n' D' r.1) ∧ Upd w.heap.size (fun k => k = rb ∨ k = mb) w w' ∧ HearBox w' w.heap.size rb s k nn r.2.1 r.2.2.1 r.2.2.2 := by
  have hE : ∀ args w, (callFunc 33 args).run Tryd.prog w = .ok (.enter 33 args) w := enters_of Tryd.func33 (by kernel_rfl) rfl
  have hbA := hearW_below w rb s k nn
  have hsz := hearW_size w rb s k nn
  have hbx := hearW_box w rb s k nn
  generalize hearW w rb s k nn = WA at *
  obtain ⟨E, hEe⟩ : ∃ E, (Obj.cells #[.int .i64 0] 28) = E := ⟨_, rfl⟩
  have hbE : Below WA.heap.size WA (WA.alloc E) := (Below.refl _ _).alloc (Nat.le_refl _) _
  have hbWE : Below w.heap.size w (WA.alloc E) := hbA.trans (hbE.mono (by omega))
  have hszE : (WA.alloc E).heap.size = w.heap.size + 6 := by simp; omega
  have hlt := h.lt
  have hC := hear1_any (h.below hbWE) (hT.later hbWE) w.heap.size s k nn hs (hbx.below hbE) hn (by omega) hlt
  have hbox : (WA.alloc E).heap[WA.heap.size]? = some E := blk_new _ _
  cases hr : R.hear s k nn with
  | error c =>
    rw [hr] at hC
    simp only
    subst hEe
    refine (tries_no 33 (hearCaps w.heap.size) WA c (fun w' => Below (WA.alloc (.cells #[.int .i64 0] 28)).heap.size (WA.alloc (.cells #[.int .i64 0] 28)) w') hE (hC.mono fun e w' ⟨a, b⟩ => ⟨a, blk_below hbox b (blk_lt hbox), b⟩)).mono ?_
    rintro e w' ⟨rfl, w1, hb1, hx1, rfl⟩
    have hb2 : Below w.heap.size w w1 := hbWE.trans (hb1.mono (by omega))
    have hu : Upd w1.heap.size (fun k => k = WA.heap.size) w1 (w1.setCell ⟨WA.heap.size, 0, none⟩ (.int .i64 c)) := Upd.setCell (ks := fun k => k = WA.heap.size) (Upd.refl _ _ _) (a := (⟨WA.heap.size, 0, none⟩ : Addr)) (.inl rfl) _
    refine ⟨rfl, ?_, ?_, ?_⟩
    · refine RoAtK.upd (h.below hb2) hu (Nat.le_refl _) (by omega) (by omega) ?_
      rintro k cur hk _ e
      subst e
      rw [hx1] at hk
      simp at hk
    · exact Below.setCell hb2 (by show w.heap.size ≤ WA.heap.size; omega) _
    · exact ((hbx.below hbE).below hb1).upd hu (Nat.le_refl _) (fun j hj e => by omega)
  | ok r =>
    obtain ⟨R', t, dn, ch⟩ := r
    rw [hr] at hC
    simp only
    subst hEe
    refine (tries_ok 33 (hearCaps w.heap.size) WA (fun w' => HearDone (WA.alloc (.cells #[.int .i64 0] 28)) w' B rb mb n w.heap.size R' t dn ch) hE (hC.mono fun e w' ⟨a, b⟩ => ⟨a, blk_upd hbox b.upd (blk_lt hbox) (by rintro (e | e | e) <;> omega), b⟩)).mono ?_
    rintro e w' ⟨rfl, w1, hd, hx1, rfl⟩
    have hu : Upd w1.heap.size (fun k => k = WA.heap.size) w1 (w1.setCell ⟨WA.heap.size, 0, none⟩ (.int .i64 0)) := Upd.setCell (ks := fun k => k = WA.heap.size) (Upd.refl _ _ _) (a := (⟨WA.heap.size, 0, none⟩ : Addr)) (.inl rfl) _
    have hbx2 := hbx.below hbE
    have old : ∀ (j : Nat) (o : Obj), j < 4 → (WA.alloc (.cells #[.int .i64 0] 28)).heap[w.heap.size + j]? = some o → w1.heap[w.heap.size + j]? = some o := fun j o hj ho => blk_upd ho hd.upd (blk_lt ho) (by rintro (e | e | e) <;> omega)
    refine ⟨rfl, ?_, ?_, ?_⟩
    · obtain ⟨n', D', hn', hro⟩ := hd.ro
      refine ⟨n', D', hn', RoAtK.upd hro hu (Nat.le_refl _) (by omega) (by omega) ?_⟩
      rintro k cur hk _ e
      subst e
      rw [hx1] at hk
      simp at hk
    · exact (upd_of_boxes hbWE hd.upd (by omega) (by rintro k (e | e | e); exact .inl e; exact .inr (.inl e); exact .inr (.inr (by omega)))).setCell (.inr (by show w.heap.size ≤ WA.heap.size; omega)) _
    · exact HearBox.upd ⟨old 0 _ (by omega) hbx2.b0, old 1 _ (by omega) hbx2.b1, old 2 _ (by omega) hbx2.b2, old 3 _ (by omega) hbx2.b3, hd.b4⟩ hu (Nat.le_refl _) (fun j hj e => by omega)


theorem hear_fin {w w1 : World} {B rb mb n' : Nat} {D' : DataW Value} {R : RS} {t : Int} {dn ch : Bool} (hro : RoAt w1 B rb mb n' D' R) (hu : Upd w.heap.size (fun k => k = rb ∨ k = mb) w w1) (hg : rb < w.heap.size ∧ mb < w.heap.size)
    (h4 : w1.heap[w.heap.size + 4]? = some (.cells #[.int .i64 t, .bool dn, .bool ch] 40)) :
    RoAt (((w1.setCell ⟨w.heap.size + 4, 0, none⟩ (.int .i64 t)).setCell ⟨w.heap.size + 4, 1, none⟩ (.bool dn)).setCell ⟨w.heap.size + 4, 2, none⟩ (.bool ch)) B rb mb n' D' R ∧
    Upd w.heap.size (fun k => k = rb ∨ k = mb) w (((w1.setCell ⟨w.heap.size + 4, 0, none⟩ (.int .i64 t)).setCell ⟨w.heap.size + 4, 1, none⟩ (.bool dn)).setCell ⟨w.heap.size + 4, 2, none⟩ (.bool ch)) ∧
    (((w1.setCell ⟨w.heap.size + 4, 0, none⟩ (.int .i64 t)).setCell ⟨w.heap.size + 4, 1, none⟩ (.bool dn)).setCell ⟨w.heap.size + 4, 2, none⟩ (.bool ch)).heap[w.heap.size + 4]? = some (.cells #[.int .i64 t, .bool dn, .bool ch] 40) := by
  have hs : Upd w1.heap.size (fun k => k = w.heap.size + 4) w1 (((w1.setCell ⟨w.heap.size + 4, 0, none⟩ (.int .i64 t)).setCell ⟨w.heap.size + 4, 1, none⟩ (.bool dn)).setCell ⟨w.heap.size + 4, 2, none⟩ (.bool ch)) :=
    Upd.setCell (ks := fun k => k = w.heap.size + 4) (Upd.setCell (ks := fun k => k = w.heap.size + 4) (Upd.setCell (ks := fun k => k = w.heap.size + 4) (Upd.refl _ _ _) (a := (⟨w.heap.size + 4, 0, none⟩ : Addr)) (.inl rfl) _) (a := (⟨w.heap.size + 4, 1, none⟩ : Addr)) (.inl rfl) _) (a := (⟨w.heap.size + 4, 2, none⟩ : Addr)) (.inl rfl) _
  refine ⟨RoAtK.upd hro hs (Nat.le_refl _) (by omega) (by omega) (fun k cur hk _ e => by subst e; rw [h4] at hk; simp at hk), ?_, blk_set_same (blk_set_same (blk_set_same h4 0 _) 1 _) 2 _⟩
  exact Upd.setCell (Upd.setCell (Upd.setCell hu (a := (⟨w.heap.size + 4, 0, none⟩ : Addr)) (.inr (by show w.heap.size ≤ w.heap.size + 4; omega)) _) (a := (⟨w.heap.size + 4, 1, none⟩ : Addr)) (.inr (by show w.heap.size ≤ w.heap.size + 4; omega)) _) (a := (⟨w.heap.size + 4, 2, none⟩ : Addr)) (.inr (by show w.heap.size ≤ w.heap.size + 4; omega)) _

set_option maxRecDepth 100000 in
set_option maxHeartbeats 8000000 in
/-- Hear from what was tried on: ver is counted where an item has changed. -/
theorem rhear_go {w : World} {B rb mb n : Nat} {R' : RS} (hrb : rb < w.heap.size ∧ mb < w.heap.size) (s : ByteArray) (k nn t : Int) (dn ch : Bool) (c : Int) (hv0 : 0 ≤ R'.ver) (hv1 : R'.ver < 18446744073709551615)
    (C : Calls Tryd.prog 25 #[.func (.func 33) #[] (hearCaps w.heap.size)] (hearW w rb s k nn) fun e w' =>
      e = .returned (.int .i64 c) ∧ (∃ n' D', n' ≤ n + 1 ∧ RoAt w' B rb mb n' D' R') ∧ Upd w.heap.size (fun k => k = rb ∨ k = mb) w w' ∧ HearBox w' w.heap.size rb s k nn t dn ch) :
    Calls Tryd.prog 11 #[.pointer (some ⟨rb, 0, none⟩), .string s, .int .i64 k, .int .u64 nn] w fun e w' =>
      e = .returned (.tuple #[.agg #[.int .i64 t, .bool dn, .bool ch], .int .i64 c]) ∧ AnyRo w w' B rb mb (n + 1) (if ch then { R' with ver := R'.ver + 1 } else R') ∧ Upd w.heap.size (fun k => k = rb ∨ k = mb) w w' := by
  have HC := Lib.hid C
  have hmf : ∀ (fn : Fn) (first cap : Array Value) (w : World), (Instr.makeFunc fn first cap).run Tryd.prog w = .ok (.func fn first cap) w := fun _ _ _ _ => rfl
  have wv : IntKind.u64.wrap (R'.ver + 1) = R'.ver + 1 := IntWalk.u64_in _ (by omega)
  clear C
  cases ch
  all_goals
    go_enter Tryd.func11, Tryd.ntmps11
    go_wp2_with fail
    refine HC.out.mono ?_
    rintro e w1 ⟨rfl, ⟨n', D', hn', hro⟩, hu, hbx⟩
    have HB := Lib.hid (And.intro hn' (And.intro hro (And.intro hu hbx)))
    have q0 : w1.cell? ⟨w.heap.size, 0, none⟩ = some (.pointer (some ⟨rb, 0, none⟩)) := blk_cell hbx.b0 0
    have q4 : w1.cell? ⟨w.heap.size + 4, 2, none⟩ = some (.bool _) := blk_cell hbx.b4 2
    have f0 : w1.cell? ⟨w.heap.size + 1 + 1 + 1 + 1, 2, none⟩ = some (.bool _) := blk_cell hbx.b4 2
    have f1 : True := trivial
    have f2 : True := trivial
    have r2 : w1.cell? ⟨rb, 2, none⟩ = some (.int .u64 R'.ver) := blk_cell hro.cells 2
    have rz2 : w1.frozen? ⟨rb, 2, none⟩ = false := blk_frozen hro.cells 2
    have n2 : ¬ rb = w.heap.size + 4 := by omega
    clear hn' hro hu hbx
    go_upto_region 4 with fail
  · obtain ⟨hn2, hro2, hu2, hbx2⟩ := HB.out
    have hb4 := hbx2.b4
    clear hbx2
    have hd := hear_fin (w := w) hro2 hu2 hrb hb4
    have HD := Lib.hid (And.intro hn2 hd)
    obtain ⟨c0, c1, c2, d0, d1, d2⟩ := cells3 hb4
    have p0 : w1.cell? ⟨w.heap.size + 1 + 1 + 1 + 1, 0, none⟩ = some (.int .i64 t) := c0
    have p1 : w1.cell? ⟨w.heap.size + 1 + 1 + 1 + 1, 1, none⟩ = some (.bool dn) := c1
    have p2 : w1.cell? ⟨w.heap.size + 1 + 1 + 1 + 1, 2, none⟩ = some (.bool false) := c2
    have g0 : w1.frozen? ⟨w.heap.size + 1 + 1 + 1 + 1, 0, none⟩ = false := d0
    have g1 : w1.frozen? ⟨w.heap.size + 1 + 1 + 1 + 1, 1, none⟩ = false := d1
    have g2 : w1.frozen? ⟨w.heap.size + 1 + 1 + 1 + 1, 2, none⟩ = false := d2
    clear hd hb4 hn2 hro2 hu2 HB q0 q4 f0 f1 f2 r2 rz2 c0 c1 c2 d0 d1 d2
    go_wp2_with fail
    obtain ⟨k0, k1, k2, _, _, _⟩ := cells3 HD.out.2.2.2
    have j0 : (((w1.setCell ⟨w.heap.size + 4, 0, none⟩ (.int .i64 t)).setCell ⟨w.heap.size + 4, 1, none⟩ (.bool dn)).setCell ⟨w.heap.size + 4, 2, none⟩ (.bool false)).cell? ⟨w.heap.size + 1 + 1 + 1 + 1, 0, none⟩ = some (.int .i64 t) := k0
    have j1 : (((w1.setCell ⟨w.heap.size + 4, 0, none⟩ (.int .i64 t)).setCell ⟨w.heap.size + 4, 1, none⟩ (.bool dn)).setCell ⟨w.heap.size + 4, 2, none⟩ (.bool false)).cell? ⟨w.heap.size + 1 + 1 + 1 + 1, 1, none⟩ = some (.bool dn) := k1
    have j2 : (((w1.setCell ⟨w.heap.size + 4, 0, none⟩ (.int .i64 t)).setCell ⟨w.heap.size + 4, 1, none⟩ (.bool dn)).setCell ⟨w.heap.size + 4, 2, none⟩ (.bool false)).cell? ⟨w.heap.size + 1 + 1 + 1 + 1, 2, none⟩ = some (.bool false) := k2
    clear k0 k1 k2
    generalize (((w1.setCell ⟨w.heap.size + 4, 0, none⟩ (.int .i64 t)).setCell ⟨w.heap.size + 4, 1, none⟩ (.bool dn)).setCell ⟨w.heap.size + 4, 2, none⟩ (.bool false)) = WW at *
    simp [bodyPost, results, Tryd.results11, go_sem, j0, j1, j2]
    exact ⟨⟨n', D', HD.out.1, HD.out.2.1⟩, HD.out.2.2.1⟩
  · obtain ⟨hn2, hro1, hu1, hbx2⟩ := HB.out
    have hro2 : RoAt (w1.setCell ⟨rb, 2, none⟩ (.int .u64 (R'.ver + 1))) B rb mb n' D' { R' with ver := R'.ver + 1 } := RoAtK.field hro1 2 _ rfl rfl
    have hu2 : Upd w.heap.size (fun k => k = rb ∨ k = mb) w (w1.setCell ⟨rb, 2, none⟩ (.int .u64 (R'.ver + 1))) := hu1.setCell (.inl (.inl rfl)) _
    have hb4 := blk_set_other hbx2.b4 (a := (⟨rb, 2, none⟩ : Addr)) (.int .u64 (R'.ver + 1)) (fun e => n2 e.symm)
    generalize w1.setCell ⟨rb, 2, none⟩ (.int .u64 (R'.ver + 1)) = w2 at hro2 hu2 hb4 ⊢
    clear hbx2 hro1 hu1
    have hd := hear_fin (w := w) hro2 hu2 hrb hb4
    have HD := Lib.hid (And.intro hn2 hd)
    obtain ⟨c0, c1, c2, d0, d1, d2⟩ := cells3 hb4
    have p0 : w2.cell? ⟨w.heap.size + 1 + 1 + 1 + 1, 0, none⟩ = some (.int .i64 t) := c0
    have p1 : w2.cell? ⟨w.heap.size + 1 + 1 + 1 + 1, 1, none⟩ = some (.bool dn) := c1
    have p2 : w2.cell? ⟨w.heap.size + 1 + 1 + 1 + 1, 2, none⟩ = some (.bool true) := c2
    have g0 : w2.frozen? ⟨w.heap.size + 1 + 1 + 1 + 1, 0, none⟩ = false := d0
    have g1 : w2.frozen? ⟨w.heap.size + 1 + 1 + 1 + 1, 1, none⟩ = false := d1
    have g2 : w2.frozen? ⟨w.heap.size + 1 + 1 + 1 + 1, 2, none⟩ = false := d2
    clear hd hb4 hn2 hro2 hu2 HB q0 q4 f0 f1 f2 r2 rz2 c0 c1 c2 d0 d1 d2
    go_wp2_with fail
    obtain ⟨k0, k1, k2, _, _, _⟩ := cells3 HD.out.2.2.2
    have j0 : (((w2.setCell ⟨w.heap.size + 4, 0, none⟩ (.int .i64 t)).setCell ⟨w.heap.size + 4, 1, none⟩ (.bool dn)).setCell ⟨w.heap.size + 4, 2, none⟩ (.bool true)).cell? ⟨w.heap.size + 1 + 1 + 1 + 1, 0, none⟩ = some (.int .i64 t) := k0
    have j1 : (((w2.setCell ⟨w.heap.size + 4, 0, none⟩ (.int .i64 t)).setCell ⟨w.heap.size + 4, 1, none⟩ (.bool dn)).setCell ⟨w.heap.size + 4, 2, none⟩ (.bool true)).cell? ⟨w.heap.size + 1 + 1 + 1 + 1, 1, none⟩ = some (.bool dn) := k1
    have j2 : (((w2.setCell ⟨w.heap.size + 4, 0, none⟩ (.int .i64 t)).setCell ⟨w.heap.size + 4, 1, none⟩ (.bool dn)).setCell ⟨w.heap.size + 4, 2, none⟩ (.bool true)).cell? ⟨w.heap.size + 1 + 1 + 1 + 1, 2, none⟩ = some (.bool true) := k2
    clear k0 k1 k2
    generalize (((w2.setCell ⟨w.heap.size + 4, 0, none⟩ (.int .i64 t)).setCell ⟨w.heap.size + 4, 1, none⟩ (.bool dn)).setCell ⟨w.heap.size + 4, 2, none⟩ (.bool true)) = WW at *
    simp [bodyPost, results, Tryd.results11, go_sem, j0, j1, j2]
    exact ⟨⟨n', D', HD.out.1, HD.out.2.1⟩, HD.out.2.2.1⟩

theorem rhear_any {w : World} {B rb mb n : Nat} {D : DataW Value} {R : RS} (h : RoAt w B rb mb n D R) (hT : Tabs w) (s : ByteArray) (k nn : Int) (hs : s.size ≤ 9223372036854775807) (hn : n ≤ 1000000) (hB : B ≤ w.heap.size) (hv0 : 0 ≤ R.ver) (hv1 : R.ver < 18446744073709551615) :
    Calls Tryd.prog 11 #[.pointer (some ⟨rb, 0, none⟩), .string s, .int .i64 k, .int .u64 nn] w fun e w' =>
      e = .returned (.tuple #[.agg #[.int .i64 (R.hearAll s k nn).2.1, .bool (R.hearAll s k nn).2.2.1, .bool (R.hearAll s k nn).2.2.2.1], .int .i64 (R.hearAll s k nn).2.2.2.2]) ∧ AnyRo w w' B rb mb (n + 1) (R.hearAll s k nn).1 ∧ Upd w.heap.size (fun k => k = rb ∨ k = mb) w w' := by
  have C := hear_tried h hT s k nn hs hn hB
  unfold RS.hearAll
  cases hr : R.hear s k nn with
  | error c =>
    rw [hr] at C
    have hgo := rhear_go (B := B) (n := n) (R' := R) h.lt s k nn 0 false false c hv0 hv1 (C.mono fun e w' ⟨a, b, c, d⟩ => ⟨a, ⟨n, D, Nat.le_succ _, b⟩, Upd.of_below c (Nat.le_refl _), d⟩)
    simpa using hgo
  | ok r =>
    rw [hr] at C
    have hv := RS.hear_ver hr
    obtain ⟨R', t, dn, ch⟩ := r
    simp only at hv
    have hgo := rhear_go (B := B) (n := n) (R' := R') h.lt s k nn t dn ch 0 (by rw [hv]; exact hv0) (by rw [hv]; exact hv1) C
    simpa using hgo

end Go.Proofs.YthbjcihdlhkboaaDoor
