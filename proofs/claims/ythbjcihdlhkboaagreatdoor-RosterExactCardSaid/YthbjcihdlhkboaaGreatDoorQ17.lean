/- Hear, as a whole. A new roster; its count of changes; chapter 16's 'wakes'. A roster by its bounds: what every call keeps; what is told of the items changes just where the count rises. Texts, sorted, none twice: slices.Compact(slices.Sorted(slices.Values(l))). -/
import Derived.Lib.SlicesCompact
import Derived.Test.YthbjcihdlhkboaaGreatDoorShelf
import Derived.RangeFuncBound
import Derived.Test.YthbjcihdlhkboaaGreatDoorQ15
namespace Go.Proofs.YthbjcihdlhkboaaGreatDoor
set_option linter.unusedSimpArgs false
set_option linter.unusedVariables false
open Go.RowKit Go.Maps Go.Shelf Go.Lib

theorem RS.hear_ver {R : RS} {s : ByteArray} {k nn : Int} {r : RS × Int × Bool × Bool} (h : R.hear s k nn = .ok r) : r.1.ver = R.ver := by
  unfold RS.hear at h
  split at h
  · split at h
    · cases h
    · split at h
      · simp only [Except.ok.injEq] at h; subst h; rfl
      · simp only [Except.ok.injEq] at h; subst h
        exact (RS.set_ver _ _).1
  · cases h

/-- A mail: the new roster; the answer. -/
def RS.hearAll (R : RS) (s : ByteArray) (k nn : Int) : RS × Int × Bool × Bool × Int :=
  match R.hear s k nn with
  | .error c => (R, 0, false, false, c)
  | .ok (R', t, dn, ch) => (if ch then { R' with ver := R'.ver + 1 } else R', t, dn, ch, 0)

/-- The world at the head of what is tried: the five variables, and the error. -/
abbrev hearW (w : World) (rb : Nat) (s : ByteArray) (k nn : Int) : World :=
  ((((w.alloc (.cells #[.pointer (some ⟨rb, 0, none⟩)] 42)).alloc (.cells #[.string s] 9)).alloc (.cells #[.int .i64 k] 3)).alloc (.cells #[.int .u64 nn] 45)).alloc (.cells #[.int .i64 0, .bool false, .bool false] 63)
theorem hearW_size (w : World) (rb : Nat) (s : ByteArray) (k nn : Int) : (hearW w rb s k nn).heap.size = w.heap.size + 5 := by simp
theorem hearW_below (w : World) (rb : Nat) (s : ByteArray) (k nn : Int) : Below w.heap.size w (hearW w rb s k nn) :=
  ((((((Below.refl _ _).alloc (Nat.le_refl _) _).alloc (by simp) _).alloc (by simp <;> omega) _).alloc (by simp <;> omega) _).alloc (by simp <;> omega) _)
theorem hearW_box (w : World) (rb : Nat) (s : ByteArray) (k nn : Int) : HearBox (hearW w rb s k nn) w.heap.size rb s k nn 0 false false where
  b0 := blk_alloc (blk_alloc (blk_alloc (blk_alloc (blk_new _ _) _) _) _) _
  b1 := blk_alloc (blk_alloc (blk_alloc (blk_new' _ (by simp)) _) _) _
  b2 := blk_alloc (blk_alloc (blk_new' _ (by simp)) _) _
  b3 := blk_alloc (blk_new' _ (by simp)) _
  b4 := blk_new' _ (by simp)

set_option maxRecDepth 100000 in
set_option maxHeartbeats 8000000 in
/-- What is tried of a mail. -/
theorem hear_tried {w : World} {B rb mb n : Nat} {D : DataW Value} {R : RS} (h : RoAt w B rb mb n D R) (hT : Tabs w) (s : ByteArray) (k nn : Int) (hs : s.size ≤ 9223372036854775807) (hn : n ≤ 1000000) (hB : B ≤ w.heap.size) :
    Calls Tryz.prog 58 #[.func (.func 70) #[] (hearCaps w.heap.size)] (hearW w rb s k nn) fun e w' =>
      match R.hear s k nn with
      | .error c => e = .returned (.int .i64 c) ∧ RoAt w' B rb mb n D R ∧ Below w.heap.size w w' ∧ HearBox w' w.heap.size rb s k nn 0 false false
      | .ok r => e = .returned (.int .i64 0) ∧ (∃ n' D', n' ≤ n + 1 ∧ RoAt w' B rb mb n' D' r.1) ∧ Upd w.heap.size (fun k => k = rb ∨ k = mb) w w' ∧ HearBox w' w.heap.size rb s k nn r.2.1 r.2.2.1 r.2.2.2 := by
  have hE : ∀ args w, (callFunc 70 args).run Tryz.prog w = .ok (.enter 70 args) w := enters_of Tryz.func70 (by kernel_rfl) rfl
  have hbA := hearW_below w rb s k nn
  have hsz := hearW_size w rb s k nn
  have hbx := hearW_box w rb s k nn
  generalize hearW w rb s k nn = WA at *
  obtain ⟨E, hEe⟩ : ∃ E, (Obj.cells #[.int .i64 0] 24) = E := ⟨_, rfl⟩
  have hbE : Below WA.heap.size WA (WA.alloc E) := (Below.refl _ _).alloc (Nat.le_refl _) _
  have hbWE : Below w.heap.size w (WA.alloc E) := hbA.trans (hbE.mono (by omega))
  have hszE : (WA.alloc E).heap.size = w.heap.size + 6 := by simp; omega
  have hlt := h.lt
  have hC := hear1_any (h.below hbWE) (hT.later hbWE) w.heap.size s k nn hs (hbx.below hbE) hn (by omega) hlt
  have hbox : (WA.alloc E).heap[WA.heap.size]? = some E := blk_new _ _
  cases hr : R.hear s k nn with
  | error c =>
    rw [hr] at hC
    simp only
    subst hEe
    refine (tries_no 70 (hearCaps w.heap.size) WA c (fun w' => Below (WA.alloc (.cells #[.int .i64 0] 24)).heap.size (WA.alloc (.cells #[.int .i64 0] 24)) w') hE (hC.mono fun e w' ⟨a, b⟩ => ⟨a, blk_below hbox b (blk_lt hbox), b⟩)).mono ?_
    rintro e w' ⟨rfl, w1, hb1, hx1, rfl⟩
    have hb2 : Below w.heap.size w w1 := hbWE.trans (hb1.mono (by omega))
    have hu : Upd w1.heap.size (fun k => k = WA.heap.size) w1 (w1.setCell ⟨WA.heap.size, 0, none⟩ (.int .i64 c)) := Upd.setCell (ks := fun k => k = WA.heap.size) (Upd.refl _ _ _) (a := (⟨WA.heap.size, 0, none⟩ : Addr)) (.inl rfl) _
    refine ⟨rfl, ?_, ?_, ?_⟩
    · refine RoAtK.upd (h.below hb2) hu (Nat.le_refl _) (by omega) (by omega) ?_
      rintro k cur hk _ e
      subst e
      rw [hx1] at hk
      simp at hk
    · exact Below.setCell hb2 (by show w.heap.size ≤ WA.heap.size; omega) _
    · exact ((hbx.below hbE).below hb1).upd hu (Nat.le_refl _) (fun j hj e => by omega)
  | ok r =>
    obtain ⟨R', t, dn, ch⟩ := r
    rw [hr] at hC
    simp only
    subst hEe
    refine (tries_ok 70 (hearCaps w.heap.size) WA (fun w' => HearDone (WA.alloc (.cells #[.int .i64 0] 24)) w' B rb mb n w.heap.size R' t dn ch) hE (hC.mono fun e w' ⟨a, b⟩ => ⟨a, blk_upd hbox b.upd (blk_lt hbox) (by rintro (e | e | e) <;> omega), b⟩)).mono ?_
    rintro e w' ⟨rfl, w1, hd, hx1, rfl⟩
    have hu : Upd w1.heap.size (fun k => k = WA.heap.size) w1 (w1.setCell ⟨WA.heap.size, 0, none⟩ (.int .i64 0)) := Upd.setCell (ks := fun k => k = WA.heap.size) (Upd.refl _ _ _) (a := (⟨WA.heap.size, 0, none⟩ : Addr)) (.inl rfl) _
    have hbx2 := hbx.below hbE
    have old : ∀ (j : Nat) (o : Obj), j < 4 → (WA.alloc (.cells #[.int .i64 0] 24)).heap[w.heap.size + j]? = some o → w1.heap[w.heap.size + j]? = some o := fun j o hj ho => blk_upd ho hd.upd (blk_lt ho) (by rintro (e | e | e) <;> omega)
    refine ⟨rfl, ?_, ?_, ?_⟩
    · obtain ⟨n', D', hn', hro⟩ := hd.ro
      refine ⟨n', D', hn', RoAtK.upd hro hu (Nat.le_refl _) (by omega) (by omega) ?_⟩
      rintro k cur hk _ e
      subst e
      rw [hx1] at hk
      simp at hk
    · exact (upd_of_boxes hbWE hd.upd (by omega) (by rintro k (e | e | e); exact .inl e; exact .inr (.inl e); exact .inr (.inr (by omega)))).setCell (.inr (by show w.heap.size ≤ WA.heap.size; omega)) _
    · exact HearBox.upd ⟨old 0 _ (by omega) hbx2.b0, old 1 _ (by omega) hbx2.b1, old 2 _ (by omega) hbx2.b2, old 3 _ (by omega) hbx2.b3, hd.b4⟩ hu (Nat.le_refl _) (fun j hj e => by omega)


theorem hear_fin {w w1 : World} {B rb mb n' : Nat} {D' : DataW Value} {R : RS} {t : Int} {dn ch : Bool} (hro : RoAt w1 B rb mb n' D' R) (hu : Upd w.heap.size (fun k => k = rb ∨ k = mb) w w1) (hg : rb < w.heap.size ∧ mb < w.heap.size)
    (h4 : w1.heap[w.heap.size + 4]? = some (.cells #[.int .i64 t, .bool dn, .bool ch] 63)) :
    RoAt (((w1.setCell ⟨w.heap.size + 4, 0, none⟩ (.int .i64 t)).setCell ⟨w.heap.size + 4, 1, none⟩ (.bool dn)).setCell ⟨w.heap.size + 4, 2, none⟩ (.bool ch)) B rb mb n' D' R ∧
    Upd w.heap.size (fun k => k = rb ∨ k = mb) w (((w1.setCell ⟨w.heap.size + 4, 0, none⟩ (.int .i64 t)).setCell ⟨w.heap.size + 4, 1, none⟩ (.bool dn)).setCell ⟨w.heap.size + 4, 2, none⟩ (.bool ch)) ∧
    (((w1.setCell ⟨w.heap.size + 4, 0, none⟩ (.int .i64 t)).setCell ⟨w.heap.size + 4, 1, none⟩ (.bool dn)).setCell ⟨w.heap.size + 4, 2, none⟩ (.bool ch)).heap[w.heap.size + 4]? = some (.cells #[.int .i64 t, .bool dn, .bool ch] 63) := by
  have hs : Upd w1.heap.size (fun k => k = w.heap.size + 4) w1 (((w1.setCell ⟨w.heap.size + 4, 0, none⟩ (.int .i64 t)).setCell ⟨w.heap.size + 4, 1, none⟩ (.bool dn)).setCell ⟨w.heap.size + 4, 2, none⟩ (.bool ch)) :=
    Upd.setCell (ks := fun k => k = w.heap.size + 4) (Upd.setCell (ks := fun k => k = w.heap.size + 4) (Upd.setCell (ks := fun k => k = w.heap.size + 4) (Upd.refl _ _ _) (a := (⟨w.heap.size + 4, 0, none⟩ : Addr)) (.inl rfl) _) (a := (⟨w.heap.size + 4, 1, none⟩ : Addr)) (.inl rfl) _) (a := (⟨w.heap.size + 4, 2, none⟩ : Addr)) (.inl rfl) _
  refine ⟨RoAtK.upd hro hs (Nat.le_refl _) (by omega) (by omega) (fun k cur hk _ e => by subst e; rw [h4] at hk; simp at hk), ?_, blk_set_same (blk_set_same (blk_set_same h4 0 _) 1 _) 2 _⟩
  exact Upd.setCell (Upd.setCell (Upd.setCell hu (a := (⟨w.heap.size + 4, 0, none⟩ : Addr)) (.inr (by show w.heap.size ≤ w.heap.size + 4; omega)) _) (a := (⟨w.heap.size + 4, 1, none⟩ : Addr)) (.inr (by show w.heap.size ≤ w.heap.size + 4; omega)) _) (a := (⟨w.heap.size + 4, 2, none⟩ : Addr)) (.inr (by show w.heap.size ≤ w.heap.size + 4; omega)) _

set_option maxRecDepth 100000 in
set_option maxHeartbeats 8000000 in
/-- Hear from what was tried on: ver is counted where an item has changed. -/
theorem rhear_go {w : World} {B rb mb n : Nat} {R' : RS} (hrb : rb < w.heap.size ∧ mb < w.heap.size) (s : ByteArray) (k nn t : Int) (dn ch : Bool) (c : Int) (hv0 : 0 ≤ R'.ver) (hv1 : R'.ver < 18446744073709551615)
    (C : Calls Tryz.prog 58 #[.func (.func 70) #[] (hearCaps w.heap.size)] (hearW w rb s k nn) fun e w' =>
      e = .returned (.int .i64 c) ∧ (∃ n' D', n' ≤ n + 1 ∧ RoAt w' B rb mb n' D' R') ∧ Upd w.heap.size (fun k => k = rb ∨ k = mb) w w' ∧ HearBox w' w.heap.size rb s k nn t dn ch) :
    Calls Tryz.prog 26 #[.pointer (some ⟨rb, 0, none⟩), .string s, .int .i64 k, .int .u64 nn] w fun e w' =>
      e = .returned (.tuple #[.agg #[.int .i64 t, .bool dn, .bool ch], .int .i64 c]) ∧ AnyRo w w' B rb mb (n + 1) (if ch then { R' with ver := R'.ver + 1 } else R') ∧ Upd w.heap.size (fun k => k = rb ∨ k = mb) w w' := by
  have HC := Lib.hid C
  have hmf : ∀ (fn : Fn) (first cap : Array Value) (w : World), (Instr.makeFunc fn first cap).run Tryz.prog w = .ok (.func fn first cap) w := fun _ _ _ _ => rfl
  have wv : IntKind.u64.wrap (R'.ver + 1) = R'.ver + 1 := IntWalk.u64_in _ (by omega)
  clear C
  cases ch
  all_goals
    go_enter Tryz.func26, Tryz.ntmps26
    go_wp2_with fail
    refine HC.out.mono ?_
    rintro e w1 ⟨rfl, ⟨n', D', hn', hro⟩, hu, hbx⟩
    have HB := Lib.hid (And.intro hn' (And.intro hro (And.intro hu hbx)))
    have q0 : w1.cell? ⟨w.heap.size, 0, none⟩ = some (.pointer (some ⟨rb, 0, none⟩)) := blk_cell hbx.b0 0
    have q4 : w1.cell? ⟨w.heap.size + 4, 2, none⟩ = some (.bool _) := blk_cell hbx.b4 2
    have f0 : w1.cell? ⟨w.heap.size + 1 + 1 + 1 + 1, 2, none⟩ = some (.bool _) := blk_cell hbx.b4 2
    have f1 : True := trivial
    have f2 : True := trivial
    have r2 : w1.cell? ⟨rb, 2, none⟩ = some (.int .u64 R'.ver) := blk_cell hro.cells 2
    have rz2 : w1.frozen? ⟨rb, 2, none⟩ = false := blk_frozen hro.cells 2
    have n2 : ¬ rb = w.heap.size + 4 := by omega
    clear hn' hro hu hbx
    go_upto_region 4 with fail
  · obtain ⟨hn2, hro2, hu2, hbx2⟩ := HB.out
    have hb4 := hbx2.b4
    clear hbx2
    have hd := hear_fin (w := w) hro2 hu2 hrb hb4
    have HD := Lib.hid (And.intro hn2 hd)
    obtain ⟨c0, c1, c2, d0, d1, d2⟩ := cells3 hb4
    have p0 : w1.cell? ⟨w.heap.size + 1 + 1 + 1 + 1, 0, none⟩ = some (.int .i64 t) := c0
    have p1 : w1.cell? ⟨w.heap.size + 1 + 1 + 1 + 1, 1, none⟩ = some (.bool dn) := c1
    have p2 : w1.cell? ⟨w.heap.size + 1 + 1 + 1 + 1, 2, none⟩ = some (.bool false) := c2
    have g0 : w1.frozen? ⟨w.heap.size + 1 + 1 + 1 + 1, 0, none⟩ = false := d0
    have g1 : w1.frozen? ⟨w.heap.size + 1 + 1 + 1 + 1, 1, none⟩ = false := d1
    have g2 : w1.frozen? ⟨w.heap.size + 1 + 1 + 1 + 1, 2, none⟩ = false := d2
    clear hd hb4 hn2 hro2 hu2 HB q0 q4 f0 f1 f2 r2 rz2 c0 c1 c2 d0 d1 d2
    go_wp2_with fail
    obtain ⟨k0, k1, k2, _, _, _⟩ := cells3 HD.out.2.2.2
    have j0 : (((w1.setCell ⟨w.heap.size + 4, 0, none⟩ (.int .i64 t)).setCell ⟨w.heap.size + 4, 1, none⟩ (.bool dn)).setCell ⟨w.heap.size + 4, 2, none⟩ (.bool false)).cell? ⟨w.heap.size + 1 + 1 + 1 + 1, 0, none⟩ = some (.int .i64 t) := k0
    have j1 : (((w1.setCell ⟨w.heap.size + 4, 0, none⟩ (.int .i64 t)).setCell ⟨w.heap.size + 4, 1, none⟩ (.bool dn)).setCell ⟨w.heap.size + 4, 2, none⟩ (.bool false)).cell? ⟨w.heap.size + 1 + 1 + 1 + 1, 1, none⟩ = some (.bool dn) := k1
    have j2 : (((w1.setCell ⟨w.heap.size + 4, 0, none⟩ (.int .i64 t)).setCell ⟨w.heap.size + 4, 1, none⟩ (.bool dn)).setCell ⟨w.heap.size + 4, 2, none⟩ (.bool false)).cell? ⟨w.heap.size + 1 + 1 + 1 + 1, 2, none⟩ = some (.bool false) := k2
    clear k0 k1 k2
    generalize (((w1.setCell ⟨w.heap.size + 4, 0, none⟩ (.int .i64 t)).setCell ⟨w.heap.size + 4, 1, none⟩ (.bool dn)).setCell ⟨w.heap.size + 4, 2, none⟩ (.bool false)) = WW at *
    simp [bodyPost, results, Tryz.results26, go_sem, j0, j1, j2]
    exact ⟨⟨n', D', HD.out.1, HD.out.2.1⟩, HD.out.2.2.1⟩
  · obtain ⟨hn2, hro1, hu1, hbx2⟩ := HB.out
    have hro2 : RoAt (w1.setCell ⟨rb, 2, none⟩ (.int .u64 (R'.ver + 1))) B rb mb n' D' { R' with ver := R'.ver + 1 } := RoAtK.field hro1 2 _ rfl rfl
    have hu2 : Upd w.heap.size (fun k => k = rb ∨ k = mb) w (w1.setCell ⟨rb, 2, none⟩ (.int .u64 (R'.ver + 1))) := hu1.setCell (.inl (.inl rfl)) _
    have hb4 := blk_set_other hbx2.b4 (a := (⟨rb, 2, none⟩ : Addr)) (.int .u64 (R'.ver + 1)) (fun e => n2 e.symm)
    generalize w1.setCell ⟨rb, 2, none⟩ (.int .u64 (R'.ver + 1)) = w2 at hro2 hu2 hb4 ⊢
    clear hbx2 hro1 hu1
    have hd := hear_fin (w := w) hro2 hu2 hrb hb4
    have HD := Lib.hid (And.intro hn2 hd)
    obtain ⟨c0, c1, c2, d0, d1, d2⟩ := cells3 hb4
    have p0 : w2.cell? ⟨w.heap.size + 1 + 1 + 1 + 1, 0, none⟩ = some (.int .i64 t) := c0
    have p1 : w2.cell? ⟨w.heap.size + 1 + 1 + 1 + 1, 1, none⟩ = some (.bool dn) := c1
    have p2 : w2.cell? ⟨w.heap.size + 1 + 1 + 1 + 1, 2, none⟩ = some (.bool true) := c2
    have g0 : w2.frozen? ⟨w.heap.size + 1 + 1 + 1 + 1, 0, none⟩ = false := d0
    have g1 : w2.frozen? ⟨w.heap.size + 1 + 1 + 1 + 1, 1, none⟩ = false := d1
    have g2 : w2.frozen? ⟨w.heap.size + 1 + 1 + 1 + 1, 2, none⟩ = false := d2
    clear hd hb4 hn2 hro2 hu2 HB q0 q4 f0 f1 f2 r2 rz2 c0 c1 c2 d0 d1 d2
    go_wp2_with fail
    obtain ⟨k0, k1, k2, _, _, _⟩ := cells3 HD.out.2.2.2
    have j0 : (((w2.setCell ⟨w.heap.size + 4, 0, none⟩ (.int .i64 t)).setCell ⟨w.heap.size + 4, 1, none⟩ (.bool dn)).setCell ⟨w.heap.size + 4, 2, none⟩ (.bool true)).cell? ⟨w.heap.size + 1 + 1 + 1 + 1, 0, none⟩ = some (.int .i64 t) := k0
    have j1 : (((w2.setCell ⟨w.heap.size + 4, 0, none⟩ (.int .i64 t)).setCell ⟨w.heap.size + 4, 1, none⟩ (.bool dn)).setCell ⟨w.heap.size + 4, 2, none⟩ (.bool true)).cell? ⟨w.heap.size + 1 + 1 + 1 + 1, 1, none⟩ = some (.bool dn) := k1
    have j2 : (((w2.setCell ⟨w.heap.size + 4, 0, none⟩ (.int .i64 t)).setCell ⟨w.heap.size + 4, 1, none⟩ (.bool dn)).setCell ⟨w.heap.size + 4, 2, none⟩ (.bool true)).cell? ⟨w.heap.size + 1 + 1 + 1 + 1, 2, none⟩ = some (.bool true) := k2
    clear k0 k1 k2
    generalize (((w2.setCell ⟨w.heap.size + 4, 0, none⟩ (.int .i64 t)).setCell ⟨w.heap.size + 4, 1, none⟩ (.bool dn)).setCell ⟨w.heap.size + 4, 2, none⟩ (.bool true)) = WW at *
    simp [bodyPost, results, Tryz.results26, go_sem, j0, j1, j2]
    exact ⟨⟨n', D', HD.out.1, HD.out.2.1⟩, HD.out.2.2.1⟩

theorem rhear_any {w : World} {B rb mb n : Nat} {D : DataW Value} {R : RS} (h : RoAt w B rb mb n D R) (hT : Tabs w) (s : ByteArray) (k nn : Int) (hs : s.size ≤ 9223372036854775807) (hn : n ≤ 1000000) (hB : B ≤ w.heap.size) (hv0 : 0 ≤ R.ver) (hv1 : R.ver < 18446744073709551615) :
    Calls Tryz.prog 26 #[.pointer (some ⟨rb, 0, none⟩), .string s, .int .i64 k, .int .u64 nn] w fun e w' =>
      e = .returned (.tuple #[.agg #[.int .i64 (R.hearAll s k nn).2.1, .bool (R.hearAll s k nn).2.2.1, .bool (R.hearAll s k nn).2.2.2.1], .int .i64 (R.hearAll s k nn).2.2.2.2]) ∧ AnyRo w w' B rb mb (n + 1) (R.hearAll s k nn).1 ∧ Upd w.heap.size (fun k => k = rb ∨ k = mb) w w' := by
  have C := hear_tried h hT s k nn hs hn hB
  unfold RS.hearAll
  cases hr : R.hear s k nn with
  | error c =>
    rw [hr] at C
    have hgo := rhear_go (B := B) (n := n) (R' := R) h.lt s k nn 0 false false c hv0 hv1 (C.mono fun e w' ⟨a, b, c, d⟩ => ⟨a, ⟨n, D, Nat.le_succ _, b⟩, Upd.of_below c (Nat.le_refl _), d⟩)
    simpa using hgo
  | ok r =>
    rw [hr] at C
    have hv := RS.hear_ver hr
    obtain ⟨R', t, dn, ch⟩ := r
    simp only at hv
    have hgo := rhear_go (B := B) (n := n) (R' := R') h.lt s k nn t dn ch 0 (by rw [hv]; exact hv0) (by rw [hv]; exact hv1) C
    simpa using hgo

end Go.Proofs.YthbjcihdlhkboaaGreatDoor

namespace Go.Proofs.YthbjcihdlhkboaaGreatDoor
set_option linter.unusedSimpArgs false
set_option linter.unusedVariables false
open Go.RowKit Go.Maps Go.Shelf Go.Lib

abbrev RS.new (items asks : Int) : RS := ⟨items, asks, 0, 0, []⟩

set_option maxHeartbeats 1000000 in
theorem rnew_any (items asks : Int) (h0 : 0 ≤ items) (h1 : items ≤ 10000) (h2 : 0 ≤ asks) (h3 : asks ≤ 10000) (w : World) :
    Calls Tryz.prog 17 #[.int .i64 items, .int .i64 asks] w fun e w' => e = .returned (.tuple #[.pointer (some ⟨w.heap.size + 1, 0, none⟩), .int .i64 0]) ∧ Below w.heap.size w w' ∧
      RoAt w' w.heap.size (w.heap.size + 1) w.heap.size 0 (.map []) (RS.new items asks) := by
  have hmm := @run_makeMap Tryz.prog
  have b0 : decide (items < 0) = false := by simp; omega
  have b1 : decide (10000 < items) = false := by simp; omega
  have b2 : decide (asks < 0) = false := by simp; omega
  have b3 : decide (10000 < asks) = false := by simp; omega
  go_enter Tryz.func17, Tryz.ntmps17
  go_wp2_with fail
  go_ret2
  refine ⟨rfl, ((Below.refl _ _).alloc (Nat.le_refl _) _).alloc (by simp) _, ?_⟩
  exact { cells := blk_new' _ (by simp), own := (World.ownsMap_made _ _ _ _).alloc _, ok := HasOk.empty, size := rfl, lists := fun s => .inl ⟨mget_empty s, rfl⟩, lo := ⟨by omega, Nat.le_refl _⟩, apart := List.nodup_nil }

set_option maxHeartbeats 1000000 in
theorem rver_any {w : World} {B rb mb n : Nat} {D : DataW Value} {R : RS} {kc : Int} (h : RoAtK w B rb mb n D R kc) :
    Calls Tryz.prog 19 #[.pointer (some ⟨rb, 0, none⟩)] w fun e w' => e = .returned (.int .u64 R.ver) ∧ Below w.heap.size w w' := by
  have r2 : w.cell? ⟨rb, 2, none⟩ = some (.int .u64 R.ver) := blk_cell h.cells 2
  clear h
  go_enter Tryz.func19, Tryz.ntmps19
  go_wp2_with fail
  go_ret
  exact ⟨rfl, Below.refl _ _⟩

abbrev textBob : ByteArray := ⟨#[66, 111, 98]⟩
abbrev textbob : ByteArray := ⟨#[98, 111, 98]⟩
abbrev RW : RS := ⟨2, 1, 1, 1, [(textbob, ⟨textbob, true, ⟨#[]⟩, [], ⟨1, 1, 0, 0⟩⟩)]⟩
theorem wake_act : (RS.new 2 1).actAll textBob 11 = (RW, 1, 1, true, 0) := by kernel_rfl
abbrev wakeE : Ent := ⟨textbob, true, ⟨#[]⟩, [], ⟨1, 1, 0, 0⟩⟩
theorem wake_get : RW.get textbob = some wakeE := by kernel_rfl
theorem wake_local : (localS textbob).1 = textbob := by kernel_rfl

set_option maxRecDepth 100000 in
set_option maxHeartbeats 4000000 in
theorem wakes16_any (w : World) (hT : Tabs w) :
    Calls Tryz.prog 18 #[] w fun e w' => e = .returned (.bool true) ∧ Below w.heap.size w w' := by
  have HT := Lib.hid hT
  clear hT
  go_enter Tryz.func18, Tryz.ntmps18
  go_wp2_with fail
  refine (rnew_any 2 1 (by decide) (by decide) (by decide) (by decide) _).mono ?_
  rintro e w1 ⟨rfl, hb1, hr1⟩
  have H1 := Lib.hid (And.intro hb1 hr1)
  clear hb1 hr1
  go_wp2_with fail
  have C2 := ract_any H1.out.2 (HT.out.later H1.out.1) textBob 11 (by decide) (by decide) H1.out.1.size (by decide) (by decide) (by decide) (by decide)
  rw [wake_act] at C2
  refine C2.mono ?_
  rintro e w2 ⟨rfl, ⟨n2, D2, hn2, hr2⟩, hu2⟩
  have hb2 : Below w.heap.size w w2 := H1.out.1.trans (hu2.below (by rintro k (e | e) <;> omega) H1.out.1.size)
  have H2 := Lib.hid (And.intro hb2 hr2)
  clear hb2 hr2 hu2 C2 H1
  go_wp2_with fail
  have C3 := rget_any H2.out.2 (HT.out.later H2.out.1) textbob (by decide)
  rw [wake_local, wake_get] at C3
  simp only [Option.getD_some, Option.isSome_some] at C3
  refine C3.mono ?_
  rintro e w3 ⟨⟨A, c, rfl, hg⟩, hb3⟩
  have H3 := Lib.hid (And.intro (H2.out.1.trans (hb3.mono H2.out.1.size)) (H2.out.2.below hb3))
  clear hb3 hg C3 H2
  have hA : Below w3.heap.size w3 (w3.alloc (.cells #[.string textbob, .bool true, .string ⟨#[]⟩, .slice A 0 c, .int .i64 1, .int .u64 1, .int .i64 0, .int .u64 0] 54)) := (Below.refl _ _).alloc (Nat.le_refl _) _
  have C4 := Lib.hid (rver_any (H3.out.2.below hA))
  clear hA
  go_wp2_with fail
  refine C4.out.mono ?_
  rintro e w4 ⟨rfl, hb4⟩
  have h4 := Lib.hid ((H3.out.1.alloc H3.out.1.size _).trans (hb4.mono (by have := H3.out.1.size; simp <;> omega)))
  clear hb4
  go_wp2_with fail
  go_ret
  exact ⟨rfl, h4.out⟩

end Go.Proofs.YthbjcihdlhkboaaGreatDoor

namespace Go.Proofs.YthbjcihdlhkboaaGreatDoor
set_option linter.unusedSimpArgs false
set_option linter.unusedVariables false
open Go.RowKit Go.Maps Go.Shelf Go.Lib

abbrev leB (x y : List UInt8) : Bool := decide (x ≤ y)
theorem leB_trans (a b c : List UInt8) (h1 : leB a b = true) (h2 : leB b c = true) : leB a c = true := by
  simp only [leB, decide_eq_true_eq] at *; exact List.le_trans h1 h2
theorem leB_total (a b : List UInt8) : (leB a b || leB b a) = true := by
  simp only [leB, Bool.or_eq_true, decide_eq_true_eq]; exact List.le_total a b
theorem leB_anti {a b : List UInt8} (h1 : leB a b = true) (h2 : leB b a = true) : a = b := by
  simp only [leB, decide_eq_true_eq] at *; exact List.le_antisymm h1 h2

theorem sort_perm {xs ys : List (List UInt8)} (h : xs.Perm ys) : xs.mergeSort leB = ys.mergeSort leB := by
  refine List.Perm.eq_of_pairwise (fun a b _ _ h1 h2 => leB_anti h1 h2) (List.pairwise_mergeSort leB_trans leB_total xs) (List.pairwise_mergeSort leB_trans leB_total ys) ?_
  exact ((List.mergeSort_perm xs leB).trans h).trans (List.mergeSort_perm ys leB).symm

/-- Two rising lists of the same texts, none twice, are one list. -/
theorem sorted_ext {xs ys : List (List UInt8)} (h1 : xs.Pairwise (fun a b => leB a b = true)) (h2 : ys.Pairwise (fun a b => leB a b = true)) (n1 : xs.Nodup) (n2 : ys.Nodup) (h : ∀ k, k ∈ xs ↔ k ∈ ys) : xs = ys :=
  List.Perm.eq_of_pairwise (fun a b _ _ h1 h2 => leB_anti h1 h2) h1 h2 ((List.perm_ext_iff_of_nodup n1 n2).2 h)

abbrev bl (s : ByteArray) : List UInt8 := s.data.toList
abbrev lb (l : List UInt8) : ByteArray := ⟨l.toArray⟩
theorem lb_bl (s : ByteArray) : lb (bl s) = s := by cases s; rfl
theorem bl_inj {s t : ByteArray} (h : bl s = bl t) : s = t := by rw [← lb_bl s, ← lb_bl t, h]

/-- The names of a roster, rising. -/
def RS.keys (R : RS) : List (List UInt8) := (R.list.map fun p => bl p.1).mergeSort leB
/-- The entries of which something holds, rising. -/
def RS.all (R : RS) (p : Ent → Bool) : List Ent := R.keys.filterMap fun k => (R.get (lb k)).filter p

theorem RS.mem_list {R : RS} {s : ByteArray} : (R.get s).isSome = true ↔ s ∈ R.list.map (·.1) := by
  rw [RS.get_isSome, List.any_eq_true]
  constructor
  · rintro ⟨p, hp, h⟩; exact List.mem_map.2 ⟨p, hp, by simpa using h⟩
  · intro h; obtain ⟨p, hp, h⟩ := List.mem_map.1 h; exact ⟨p, hp, by simpa using h⟩
theorem RS.mem_keys {R : RS} {k : List UInt8} : k ∈ R.keys ↔ (R.get (lb k)).isSome = true := by
  unfold RS.keys
  rw [List.mem_mergeSort, RS.mem_list]
  constructor
  · intro h
    obtain ⟨p, hp, h⟩ := List.mem_map.1 h
    exact List.mem_map.2 ⟨p, hp, by rw [← h, lb_bl]⟩
  · intro h
    obtain ⟨p, hp, h⟩ := List.mem_map.1 h
    exact List.mem_map.2 ⟨p, hp, by rw [h]⟩
theorem RS.keys_sorted (R : RS) : R.keys.Pairwise (fun a b => leB a b = true) := List.pairwise_mergeSort leB_trans leB_total _
theorem map_bl_nodup {l : List ByteArray} (h : l.Nodup) : (l.map bl).Nodup := by
  refine List.Pairwise.map bl (fun a b hab e => hab (bl_inj e)) h
theorem RS.keys_nodup {R : RS} (h : (R.list.map (·.1)).Nodup) : R.keys.Nodup := by
  unfold RS.keys
  rw [(List.mergeSort_perm _ leB).nodup_iff]
  have := map_bl_nodup h
  rwa [List.map_map] at this
theorem RS.mem_all {R : RS} {p : Ent → Bool} {e : Ent} : e ∈ R.all p ↔ (∃ s, R.get s = some e) ∧ p e = true := by
  unfold RS.all
  rw [List.mem_filterMap]
  constructor
  · rintro ⟨k, hk, h⟩
    obtain ⟨h1, h2⟩ := Option.filter_eq_some_iff.1 h
    exact ⟨⟨_, h1⟩, h2⟩
  · rintro ⟨⟨s, hs⟩, hp⟩
    exact ⟨bl s, RS.mem_keys.2 (by rw [lb_bl, hs]; rfl), Option.filter_eq_some_iff.2 ⟨by rw [lb_bl]; exact hs, hp⟩⟩

/-- The entries told hang on what the roster holds of which it holds. -/
theorem RS.all_congr {R R' : RS} {p : Ent → Bool} (h : (R.list.map (·.1)).Nodup) (h' : (R'.list.map (·.1)).Nodup) (he : ∀ s, (R.get s).filter p = (R'.get s).filter p) : R.all p = R'.all p := by
  have key : ∀ {Q : RS}, Q.all p = (Q.keys.filter fun k => ((Q.get (lb k)).filter p).isSome).filterMap fun k => (Q.get (lb k)).filter p := by
    intro Q
    unfold RS.all
    generalize Q.keys = ks
    induction ks with
    | nil => rfl
    | cons k ks ih =>
      rw [List.filterMap_cons, List.filter_cons]
      cases hf : (Q.get (lb k)).filter p with
      | none => simp [ih]
      | some e => simp [hf, ih]
  rw [key, key (Q := R')]
  have e1 : (R.keys.filter fun k => ((R.get (lb k)).filter p).isSome) = (R'.keys.filter fun k => ((R'.get (lb k)).filter p).isSome) := by
    refine sorted_ext (R.keys_sorted.filter _) (R'.keys_sorted.filter _) ((RS.keys_nodup h).filter _) ((RS.keys_nodup h').filter _) (fun k => ?_)
    rw [List.mem_filter, List.mem_filter, RS.mem_keys, RS.mem_keys, he]
    constructor
    · rintro ⟨_, h2⟩
      refine ⟨?_, h2⟩
      cases hg : R'.get (lb k) with
      | none => rw [hg] at h2; simp at h2
      | some e => rfl
    · rintro ⟨_, h2⟩
      refine ⟨?_, h2⟩
      rw [← he] at h2
      cases hg : R.get (lb k) with
      | none => rw [hg] at h2; simp at h2
      | some e => rfl
  rw [e1]
  congr 1
  funext k
  rw [he]

theorem RS.get_of_mem {R : RS} (h : (R.list.map (·.1)).Nodup) {p : ByteArray × Ent} (hp : p ∈ R.list) : R.get p.1 = some p.2 := by
  unfold RS.get
  generalize hl : R.list = l at *
  clear hl
  induction l with
  | nil => cases hp
  | cons q l ih =>
    rw [List.map_cons, List.nodup_cons] at h
    rw [List.find?_cons]
    by_cases e : q.1 = p.1
    · rcases List.mem_cons.1 hp with rfl | hm
      · simp
      · exact absurd (List.mem_map.2 ⟨p, hm, e.symm⟩) h.1
    · rcases List.mem_cons.1 hp with rfl | hm
      · exact absurd rfl e
      · simp only [e, decide_false]
        exact ih h.2 hm

theorem RS.all_length {R : RS} (h : (R.list.map (·.1)).Nodup) (p : Ent → Bool) : (R.all p).length = (R.list.filter (fun q => p q.2)).length := by
  unfold RS.all RS.keys
  have e1 : ((R.list.map fun p => bl p.1).mergeSort leB).filterMap (fun k => (R.get (lb k)).filter p) |>.Perm ((R.list.map fun p => bl p.1).filterMap (fun k => (R.get (lb k)).filter p)) := (List.mergeSort_perm _ leB).filterMap _
  rw [e1.length_eq, List.filterMap_map]
  have e2 : ∀ l : List (ByteArray × Ent), (∀ q ∈ l, q ∈ R.list) → (l.filterMap ((fun k => (R.get (lb k)).filter p) ∘ fun p => bl p.1)).length = (l.filter (fun q => p q.2)).length := by
    intro l
    induction l with
    | nil => intro _; rfl
    | cons q l ih =>
      intro hl
      have hq := RS.get_of_mem h (hl q (List.mem_cons_self ..))
      have ih' := ih (fun x hx => hl x (List.mem_cons_of_mem _ hx))
      rw [List.filterMap_cons, List.filter_cons]
      simp only [Function.comp, lb_bl, hq]
      have hf : (some q.2).filter p = if p q.2 = true then some q.2 else none := rfl
      rw [hf]
      cases hp : p q.2
      · simpa using ih'
      · simpa using ih'
  exact e2 R.list (fun q hq => hq)

/-- What a text is refused with. -/
def textE (s : ByteArray) : Int := if 64 < s.size then 5 else if validB s = false then 4 else 0
def groupsE : List ByteArray → Int
  | [] => 0
  | g :: gs => if textE g ≠ 0 then textE g else if g.size = 0 then 4 else groupsE gs
def wordsE (l : ByteArray) (gs : List ByteArray) : Int := if textE l ≠ 0 then textE l else if 8 < gs.length then 5 else groupsE gs
/-- Texts, rising, none twice. -/
def sortG (gs : List ByteArray) : List ByteArray := (Lib.compact ((gs.map bl).mergeSort leB)).map lb
def Ent.zero : Ent := ⟨⟨#[]⟩, false, ⟨#[]⟩, [], ⟨0, 0, 0, 0⟩⟩

def RS.putE (R : RS) (s l : ByteArray) (gs : List ByteArray) : Ent := { R.entry (localS s).1 with kept := true, name := l, groups := sortG gs }
def RS.putAll (R : RS) (s l : ByteArray) (gs : List ByteArray) : RS × Ent × Int :=
  if (localS s).2 ≠ 0 then (R, Ent.zero, (localS s).2)
  else if wordsE l gs ≠ 0 then (R, Ent.zero, wordsE l gs)
  else if (R.entry (localS s).1).kept = false ∧ ¬ (R.kept : Int) < R.items then (R, Ent.zero, 8)
  else ({ R.set (R.putE s l gs) with ver := R.ver + 1 }, R.putE s l gs, 0)
def RS.dropAll (R : RS) (s : ByteArray) : RS × Ent × Int :=
  if (localS s).2 ≠ 0 then (R, Ent.zero, (localS s).2)
  else if (R.entry (localS s).1).kept = false then (R, Ent.zero, 7)
  else ({ R.set (Ent.new (R.entry (localS s).1).contact) with ver := R.ver + 1 }, R.entry (localS s).1, 0)

/-- What holds of every roster that was begun empty. -/
structure RInv (R : RS) : Prop where
  apart : (R.list.map (·.1)).Nodup
  name : ∀ s e, R.get s = some e → e.contact = s
  items : (R.kept : Int) ≤ R.items
  asks : (R.list.length : Int) - R.kept ≤ R.asks

theorem RInv.new {x y : Int} (h1 : 0 ≤ x) (h2 : 0 ≤ y) : RInv (RS.new x y) := ⟨List.nodup_nil, fun s e h => by simp [RS.get] at h, by simpa [RS.kept] using h1, by simpa [RS.kept] using h2⟩

theorem RInv.entry {R : RS} (h : RInv R) (s : ByteArray) : (R.entry s).contact = s := by
  unfold RS.entry
  cases hg : R.get s with
  | none => rfl
  | some e => exact h.name s e hg
theorem RS.was_entry (R : RS) (s : ByteArray) : R.wasKept s = (R.entry s).kept := by
  unfold RS.wasKept RS.entry
  cases R.get s <;> rfl
theorem RInv.ver {R : RS} (h : RInv R) (v n : Int) : RInv { R with ver := v, next := n } := ⟨h.apart, h.name, h.items, h.asks⟩

/-- An entry is laid. -/
theorem RInv.set {R : RS} (h : RInv R) {e : Ent} (hk : e.kept = true → (R.entry e.contact).kept = true ∨ (R.kept : Int) < R.items)
    (ha : e.kept = false → e.half.i ≠ 0 → ((R.get e.contact).isSome = true ∧ (R.entry e.contact).kept = false) ∨ (R.list.length : Int) - R.kept < R.asks) : RInv (R.set e) := by
  have hw := RS.was_entry R e.contact
  have hle := R.kept_le
  have hwl := RS.wasKept_le (R := R) e.contact
  have hi := h.items
  have has := h.asks
  unfold RS.set
  split
  · rename_i hc
    obtain ⟨c1, c2⟩ := RS.put_count h.apart e.contact e
    have hI : (R.put e.contact e).items = R.items := rfl
    have hA : (R.put e.contact e).asks = R.asks := rfl
    refine ⟨RS.nodup_put h.apart _ _, fun s x hx => ?_, ?_, ?_⟩
    · by_cases e1 : s = e.contact
      · subst e1; rw [RS.get_put_same] at hx; cases hx; rfl
      · rw [RS.get_put_other R e e1] at hx; exact h.name s x hx
    · rw [hI]
      cases hke : e.kept with
      | false => rw [hke] at c1; simp only [Bool.false_eq_true, if_false] at c1; omega
      | true =>
        rw [hke] at c1
        simp only [if_true] at c1
        rcases hk hke with h1 | h1
        · rw [hw, h1] at c1; simp only [if_true] at c1; omega
        · omega
    · rw [hA, c2]
      cases hke : e.kept with
      | true =>
        rw [hke] at c1
        simp only [if_true] at c1
        cases hs : (R.get e.contact).isSome with
        | true => simp only [if_true]; cases hww : R.wasKept e.contact <;> rw [hww] at c1 <;> simp at c1 <;> omega
        | false =>
          have : R.wasKept e.contact = false := by unfold RS.wasKept; cases hg : R.get e.contact with
            | none => rfl
            | some x => rw [hg] at hs; cases hs
          rw [this] at c1
          simp at c1 ⊢
          omega
      | false =>
        rw [hke] at c1 hc
        simp only [Bool.false_or, Bool.not_eq_true', beq_eq_false_iff_ne, ne_eq] at hc
        simp only [Bool.false_eq_true, if_false] at c1
        rcases ha hke hc with ⟨h1, h2⟩ | h1
        · rw [h1]; rw [hw, h2] at c1; simp at c1 ⊢; omega
        · cases hs : (R.get e.contact).isSome with
          | true =>
            simp only [if_true]
            cases hww : R.wasKept e.contact <;> rw [hww] at c1 <;> simp at c1 <;> omega
          | false =>
            have : R.wasKept e.contact = false := by unfold RS.wasKept; cases hg : R.get e.contact with
              | none => rfl
              | some x => rw [hg] at hs; cases hs
            rw [this] at c1
            simp at c1 ⊢
            omega
  · obtain ⟨c1, c2⟩ := RS.del_count h.apart e.contact
    have hI : (R.del e.contact).items = R.items := rfl
    have hA : (R.del e.contact).asks = R.asks := rfl
    refine ⟨RS.nodup_del h.apart _, fun s x hx => ?_, ?_, ?_⟩
    · by_cases e1 : s = e.contact
      · subst e1; rw [RS.get_del_same] at hx; cases hx
      · rw [RS.get_del_other R e1] at hx; exact h.name s x hx
    · rw [hI]; omega
    · rw [hA]
      have hss : R.wasKept e.contact = true → (R.get e.contact).isSome = true := by
        intro hww
        unfold RS.wasKept at hww
        cases hg : R.get e.contact with
        | none => rw [hg] at hww; cases hww
        | some x => rfl
      cases hww : R.wasKept e.contact with
      | false => rw [hww] at c1; simp at c1; omega
      | true => rw [hww] at c1; rw [hss hww] at c2; simp at c1 c2; omega

/-- Behind an entry that is laid. -/
theorem RS.get_set (R : RS) (e : Ent) (s : ByteArray) : (R.set e).get s = if s = e.contact then (if e.kept || !(e.half.i == 0) then some e else none) else R.get s := by
  unfold RS.set
  by_cases hs : s = e.contact
  · subst hs
    rw [if_pos rfl]
    cases hc : (e.kept || !(e.half.i == 0))
    · simp only [Bool.false_eq_true, if_false]; exact RS.get_del_same _ _
    · simp only [if_true]; exact RS.get_put_same _ _ _
  · rw [if_neg hs]
    split
    · exact RS.get_put_other _ _ hs
    · exact RS.get_del_other _ hs
theorem RS.set_nodup {R : RS} (h : (R.list.map (·.1)).Nodup) (e : Ent) : ((R.set e).list.map (·.1)).Nodup := by
  unfold RS.set; split
  · exact RS.nodup_put h _ _
  · exact RS.nodup_del h _

abbrev RS.kepts (R : RS) : List Ent := R.all (·.kept)

/-- The items are the same just where the entry laid is the item that was there, or neither is one. -/
theorem RS.kepts_set {R : RS} (h : RInv R) {e : Ent} : (R.set e).kepts = R.kepts ↔ ((R.get e.contact).filter (·.kept)) = (if e.kept then some e else none) := by
  have hf : ∀ (x : Ent), (if x.kept || !(x.half.i == 0) then some x else none).filter (·.kept) = if x.kept then some x else none := by
    intro x
    cases hk : x.kept
    · split
      · simp [Option.filter, hk]
      · simp
    · simp [Option.filter, hk]
  constructor
  · intro he
    cases hk : e.kept with
    | true =>
      simp only [if_true]
      have hm : e ∈ (R.set e).kepts := RS.mem_all.2 ⟨⟨e.contact, by rw [RS.get_set, if_pos rfl, hk]; rfl⟩, hk⟩
      rw [he] at hm
      obtain ⟨⟨s, hs⟩, _⟩ := RS.mem_all.1 hm
      have := h.name s e hs
      rw [this, hs]
      simp [Option.filter, hk]
    | false =>
      simp only [Bool.false_eq_true, if_false]
      cases hg : R.get e.contact with
      | none => rfl
      | some x =>
        cases hx : x.kept with
        | false => simp [Option.filter, hx]
        | true =>
          have hm : x ∈ R.kepts := RS.mem_all.2 ⟨⟨_, hg⟩, hx⟩
          rw [← he] at hm
          obtain ⟨⟨s, hs⟩, _⟩ := RS.mem_all.1 hm
          rw [RS.get_set] at hs
          by_cases hse : s = e.contact
          · rw [if_pos hse] at hs
            split at hs
            · cases hs; rw [hk] at hx; cases hx
            · cases hs
          · rw [if_neg hse] at hs
            have := h.name s x hs
            have := h.name _ x hg
            exact absurd (by rw [← h.name s x hs, h.name _ x hg]) hse
  · intro he
    refine RS.all_congr (RS.set_nodup h.apart e) h.apart (fun s => ?_)
    rw [RS.get_set]
    by_cases hs : s = e.contact
    · subst hs
      rw [if_pos rfl, he]
      exact hf e
    · rw [if_neg hs]

theorem halfEq_iff {a b : Half} : halfEq a b = true ↔ a = b := by
  obtain ⟨o, n, i, m⟩ := a
  obtain ⟨o', n', i', m'⟩ := b
  simp [halfEq]
instance : DecidableEq Half := fun a b => decidable_of_iff (halfEq a b = true) halfEq_iff
instance : DecidableEq Ent := fun a b => decidable_of_iff (a.contact = b.contact ∧ a.kept = b.kept ∧ a.name = b.name ∧ a.groups = b.groups ∧ a.half = b.half) (by
  obtain ⟨a1, a2, a3, a4, a5⟩ := a
  obtain ⟨b1, b2, b3, b4, b5⟩ := b
  simp)

/-- What a round's look says. -/
structure Told (R R' : RS) (dropped : Bool) : Prop where
  inv : RInv R'
  items : R'.items = R.items
  asks : R'.asks = R.asks
  ver : decide (R'.ver ≠ R.ver) = (!decide (R'.kepts = R.kepts) || dropped)
  one : R.ver ≤ R'.ver ∧ R'.ver ≤ R.ver + 1
  next : R.next ≤ R'.next ∧ R'.next ≤ R.next + 1
  grow : R'.list.length ≤ R.list.length + 1

theorem Told.refl {R : RS} (h : RInv R) : Told R R false := ⟨h, rfl, rfl, by simp, by omega, by omega, by omega⟩
theorem RS.set_len {R : RS} (h : RInv R) (e : Ent) : (R.set e).list.length ≤ R.list.length + 1 := by
  unfold RS.set
  split
  · rw [(RS.put_count h.apart _ _).2]; split <;> omega
  · have := (RS.del_count h.apart e.contact).2; omega

theorem told_put {R : RS} (h : RInv R) (s l : ByteArray) (gs : List ByteArray) : Told R (R.putAll s l gs).1 (decide ((R.putAll s l gs).2.2 = 0)) := by
  unfold RS.putAll
  split
  · rename_i hc; simpa [hc] using Told.refl h
  · split
    · rename_i hc; simpa [hc] using Told.refl h
    · split
      · simpa using Told.refl h
      · rename_i hc
        have hct : (R.putE s l gs).contact = (localS s).1 := h.entry _
        obtain ⟨v1, v2, v3, v4⟩ := RS.set_ver R (R.putE s l gs)
        refine ⟨(h.set (e := R.putE s l gs) (fun _ => ?_) (fun hk => by cases hk)).ver _ _, v2, v3, by simp <;> omega, by simp <;> omega, by simp <;> omega, RS.set_len h _⟩
        rw [hct]
        cases hk : (R.entry (localS s).1).kept with
        | true => exact .inl rfl
        | false => right; rw [hk] at hc; simpa using hc

theorem told_drop {R : RS} (h : RInv R) (s : ByteArray) : Told R (R.dropAll s).1 false := by
  unfold RS.dropAll
  split
  · exact Told.refl h
  · split
    · exact Told.refl h
    · rename_i hc
      have hct : (R.entry (localS s).1).contact = (localS s).1 := h.entry _
      rw [hct]
      obtain ⟨v1, v2, v3, v4⟩ := RS.set_ver R (Ent.new (localS s).1)
      have hne : ¬ (R.set (Ent.new (localS s).1)).kepts = R.kepts := by
        rw [RS.kepts_set h]
        simp only [Ent.new]
        unfold RS.entry at hc
        cases hg : R.get (localS s).1 with
        | none => rw [hg] at hc; simp [Ent.new] at hc
        | some x =>
          rw [hg] at hc
          simp only [Option.getD_some, Bool.not_eq_false] at hc
          simp [Option.filter, hc]
      refine ⟨(h.set (e := Ent.new (localS s).1) (fun hk => by cases hk) (fun _ hk => absurd rfl hk)).ver _ _, v2, v3, ?_, by simp; omega, by simp; omega, RS.set_len h _⟩
      have : ({ R.set (Ent.new (localS s).1) with ver := R.ver + 1 } : RS).kepts = (R.set (Ent.new (localS s).1)).kepts := rfl
      rw [this]
      simp [hne] <;> omega

theorem actZ_half {h : Half} {k n : Int} (hm : (actZ h k n).2.1 ≠ 0) : (actZ h k n).1 ≠ h := by
  unfold actZ actS at *
  obtain ⟨o, hn, i, m⟩ := h
  intro e
  repeat' split at hm
  all_goals simp_all

theorem told_act {R : RS} (h : RInv R) (s : ByteArray) (k : Int) : Told R (R.actAll s k).1 false := by
  unfold RS.actAll RS.act
  by_cases h1 : (localS s).2 = 0
  · rw [if_pos h1]
    by_cases h2 : 11 ≤ k ∧ k ≤ 14
    · rw [if_pos h2]
      by_cases h3 : (actZ (R.entry (localS s).1).half k (R.next + 1)).2.1 = 0
      · rw [if_pos h3]; exact Told.refl h
      · rw [if_neg h3]
        by_cases h4 : (k = 11 ∨ k = 12) ∧ (R.entry (localS s).1).kept = false ∧ ¬ (R.kept : Int) < R.items
        · rw [if_pos h4]; exact Told.refl h
        · rw [if_neg h4]
          have hct : (R.entry (localS s).1).contact = (localS s).1 := h.entry _
          have hhalf := actZ_half h3
          generalize hx : (localS s).1 = x at *
          generalize hz : actZ (R.entry x).half k (R.next + 1) = z at *
          obtain ⟨hh, m, nn⟩ := z
          simp only at h3 hhalf ⊢
          generalize he : ({ R.entry x with kept := (R.entry x).kept || (k == 11 || k == 12), half := hh } : Ent) = e
          have hec : e.contact = x := by rw [← he]; exact hct
          have hek : e.kept = ((R.entry x).kept || (k == 11 || k == 12)) := by rw [← he]
          have heh : e.half = hh := by rw [← he]
          -- the roster ahead: next alone may differ
          obtain ⟨Q, hQ⟩ : ∃ Q, (if k = 11 then { R with next := R.next + 1 } else R) = Q := ⟨_, rfl⟩
          have hQinv : RInv Q := by rw [← hQ]; split; exact h.ver _ _; exact h
          have hQg : Q.get = R.get := by rw [← hQ]; split <;> rfl
          have hQk : Q.kepts = R.kepts := by rw [← hQ]; split <;> rfl
          have hQn : R.next ≤ Q.next ∧ Q.next ≤ R.next + 1 := by rw [← hQ]; split <;> simp <;> omega
          have hQv : Q.ver = R.ver ∧ Q.items = R.items ∧ Q.asks = R.asks ∧ Q.list = R.list := by rw [← hQ]; split <;> exact ⟨rfl, rfl, rfl, rfl⟩
          have hQe : Q.entry = R.entry := by funext t; unfold RS.entry; rw [hQg]
          have hQkk : Q.kept = R.kept := by unfold RS.kept; rw [hQv.2.2.2]
          rw [hQ]
          obtain ⟨v1, v2, v3, v4⟩ := RS.set_ver Q e
          have hinv : RInv (Q.set e) := hQinv.set (fun hk => by
              rw [hec, hQe, hQkk, hQv.2.1]
              cases hkk : (R.entry x).kept with
              | true => exact .inl rfl
              | false =>
                right
                rw [hek, hkk] at hk
                simp at hk
                by_cases hlt : (R.kept : Int) < R.items
                · exact hlt
                · exact absurd ⟨hk, hkk, hlt⟩ h4) (fun hk hi => by
              left
              rw [hek] at hk
              simp only [Bool.or_eq_false_iff] at hk
              rw [hec, hQe, hQg]
              refine ⟨?_, hk.1⟩
              cases hg : R.get x with
              | some _ => rfl
              | none =>
                exfalso
                have hen : R.entry x = Ent.new x := by unfold RS.entry; rw [hg]; rfl
                rw [hen] at hz hhalf
                have hk11 : ¬ k = 11 := by simpa using hk.2.1
                have hk12 : ¬ k = 12 := by simpa using hk.2.2
                unfold actZ actS at hz
                simp only [Ent.new, hk11, if_false, hk12] at hz
                have : rightB ⟨0, 0, 0, 0⟩ = true := by decide
                rw [this] at hz
                by_cases hk13 : k = 13
                · simp [hk13] at hz; exact h3 hz.2.1.symm
                · have hk14 : k = 14 := by omega
                  simp [hk14] at hz; exact h3 hz.2.1.symm)
          cases hk : e.kept with
          | true =>
            rw [← hek, hk]
            simp only [if_true]
            have hne : ¬ (Q.set e).kepts = Q.kepts := by
              rw [RS.kepts_set hQinv, hk, hec, hQg]
              simp only [if_true]
              intro hcon
              have := (Option.filter_eq_some_iff.1 hcon).1
              have he2 : R.entry x = e := by unfold RS.entry; rw [this]; rfl
              rw [he2, heh] at hhalf
              exact hhalf rfl
            rw [hQk] at hne
            refine ⟨hinv.ver _ _, v2.trans hQv.2.1, v3.trans hQv.2.2.1, ?_, by simp only [v1, hQv.1]; omega, by simp only [v4]; omega, by have := RS.set_len hQinv e; rw [hQv.2.2.2] at this; exact this⟩
            have : ({ Q.set e with ver := (Q.set e).ver + 1 } : RS).kepts = (Q.set e).kepts := rfl
            rw [this]
            simp only [v1, hQv.1, Bool.or_false]
            simp [hne] <;> omega
          | false =>
            rw [← hek, hk]
            simp only [Bool.false_eq_true, if_false]
            have heq : (Q.set e).kepts = Q.kepts := by
              rw [RS.kepts_set hQinv, hk, hec, hQg]
              simp only [Bool.false_eq_true, if_false]
              cases hg : R.get x with
              | none => rfl
              | some y =>
                have he2 : R.entry x = y := by unfold RS.entry; rw [hg]; rfl
                rw [hek, he2] at hk
                simp only [Bool.or_eq_false_iff] at hk
                simp [Option.filter, hk.1]
            rw [hQk] at heq
            refine ⟨hinv, v2.trans hQv.2.1, v3.trans hQv.2.2.1, by rw [heq]; simp [v1, hQv.1], by simp only [v1, hQv.1]; omega, by simp only [v4]; omega, by have := RS.set_len hQinv e; rw [hQv.2.2.2] at this; exact this⟩
    · rw [if_neg h2]; exact Told.refl h
  · rw [if_neg h1]; exact Told.refl h

theorem hear_zero_i {x : ByteArray} {k nn t : Int} {hh : Half} (hk1 : ¬ k = 1) (hS : hearS (Ent.new x).half k nn = some (hh, t)) : hh.i = 0 := by
  have hr : rightB ⟨0, 0, 0, 0⟩ = true := by decide
  unfold hearS at hS
  simp only [Ent.new, hr, hk1, if_false] at hS
  by_cases e0 : nn = 0
  · simp [e0] at hS
  · have e1 : ¬ 0 = nn := fun e => e0 e.symm
    by_cases e2 : k = 2
    · simp [e0, e1, e2] at hS; rw [← hS.1]
    · by_cases e3 : k = 3
      · simp [e0, e1, e2, e3] at hS; rw [← hS.1]
      · by_cases e4 : k = 4
        · simp [e0, e1, e2, e3, e4] at hS; rw [← hS.1]
        · simp [e0, e1, e2, e3, e4] at hS

theorem told_hear {R : RS} (h : RInv R) (s : ByteArray) (k nn : Int) : Told R (R.hearAll s k nn).1 false := by
  unfold RS.hearAll RS.hear
  by_cases h1 : (localS s).2 = 0
  · rw [if_pos h1]
    have hct : (R.entry (localS s).1).contact = (localS s).1 := h.entry _
    generalize hx : (localS s).1 = x at *
    cases hS : hearS (R.entry x).half k nn with
    | none => exact Told.refl h
    | some ht =>
      obtain ⟨hh, t⟩ := ht
      simp only
      by_cases h2 : (R.get x).isSome = false ∧ k = 1 ∧ R.asks ≤ (R.list.length : Int) - (R.kept : Int)
      · rw [if_pos h2]; exact Told.refl h
      · rw [if_neg h2]
        generalize he : ({ R.entry x with half := hh } : Ent) = e
        have hec : e.contact = x := by rw [← he]; exact hct
        have hek : e.kept = (R.entry x).kept := by rw [← he]
        have heh : e.half = hh := by rw [← he]
        obtain ⟨v1, v2, v3, v4⟩ := RS.set_ver R e
        have hinv : RInv (R.set e) := h.set (fun hk => .inl (by rw [hec, ← hek]; exact hk)) (fun hk hi => by
          rw [hec]
          cases hg : R.get x with
          | some y => exact .inl ⟨rfl, by rw [← hek]; exact hk⟩
          | none =>
            right
            by_cases hk1 : k = 1
            · by_cases hlt : (R.list.length : Int) - R.kept < R.asks
              · exact hlt
              · exact absurd ⟨by rw [hg]; rfl, hk1, by omega⟩ h2
            · exfalso
              have hen : R.entry x = Ent.new x := by unfold RS.entry; rw [hg]; rfl
              rw [hen] at hS
              rw [heh] at hi
              exact hi (hear_zero_i hk1 hS))
        cases hc : ((R.entry x).kept && !(halfEq hh (R.entry x).half)) with
        | true =>
          simp only [Bool.and_eq_true, Bool.not_eq_true'] at hc
          obtain ⟨hc1, hc2⟩ := hc
          have hne : ¬ (R.set e).kepts = R.kepts := by
            rw [RS.kepts_set h, hek, hc1, hec]
            simp only [if_true]
            intro hcon
            have := (Option.filter_eq_some_iff.1 hcon).1
            have he2 : R.entry x = e := by unfold RS.entry; rw [this]; rfl
            rw [he2, heh, (halfEq_iff.2 rfl)] at hc2
            cases hc2
          simp only [if_true]
          refine ⟨hinv.ver _ _, v2, v3, ?_, by simp only [v1]; omega, by simp only [v4]; omega, RS.set_len h _⟩
          have : ({ R.set e with ver := (R.set e).ver + 1 } : RS).kepts = (R.set e).kepts := rfl
          rw [this]
          simp only [v1, Bool.or_false]
          simp [hne] <;> omega
        | false =>
          have heq : (R.set e).kepts = R.kepts := by
            rw [RS.kepts_set h, hek, hec]
            cases hk : (R.entry x).kept with
            | false =>
              simp only [Bool.false_eq_true, if_false]
              cases hg : R.get x with
              | none => rfl
              | some y =>
                have he2 : R.entry x = y := by unfold RS.entry; rw [hg]; rfl
                rw [he2] at hk
                simp [Option.filter, hk]
            | true =>
              rw [hk] at hc
              simp only [Bool.true_and, Bool.not_eq_false'] at hc
              have hhe := halfEq_iff.1 hc
              simp only [if_true]
              cases hg : R.get x with
              | none => unfold RS.entry at hk; rw [hg] at hk; simp [Ent.new] at hk
              | some y =>
                have he2 : R.entry x = y := by unfold RS.entry; rw [hg]; rfl
                have : e = y := by rw [← he, hhe, he2]
                rw [this]
                rw [he2] at hk
                simp [Option.filter, hk]
          simp only [Bool.false_eq_true, if_false]
          exact ⟨hinv, v2, v3, by rw [heq]; simp [v1], by simp only [v1]; omega, by simp only [v4]; omega, RS.set_len h _⟩
  · rw [if_neg h1]; exact Told.refl h

end Go.Proofs.YthbjcihdlhkboaaGreatDoor

namespace Go.Proofs.YthbjcihdlhkboaaGreatDoor
set_option linter.unusedSimpArgs false
set_option linter.unusedVariables false
open Go.RowKit Go.Maps Go.Sort Go.Shelf Go.Lib

/-- An iterator that gives xs, so long as what lay ahead of it stands. -/
def GivesB (F : Fence) (n : Nat) (P : Program) (g : Nat) (lb : Array Value) (xs : List (List UInt8)) (w : World) : Prop :=
  ∀ (l : Nat) (J : List (List UInt8) → World → Prop) (W : World), Below w.heap.size w W → AbidesFrom W.heap.size J → (∀ pre W1, J pre W1 → Below w.heap.size w W1) →
    (∀ pre x W1, J pre W1 → pre.length < xs.length → YieldAt F (n - 1) P l #[encStr x] W1 fun e W' => e = .returned (.bool true) ∧ J (pre ++ [x]) W' ∧ KeepsWalks W1 W') →
    J [] W →
    CallsIn F n P g (#[.func (.yield l) #[] #[]] ++ lb) W fun e W' => (∃ v, e = .returned v) ∧ J xs W'

set_option maxRecDepth 100000 in
set_option maxHeartbeats 2000000 in
theorem appendSeq_b (n : Nat) (hn : 2 ≤ n) (g : Nat) (lb : Array Value) (eg : ∀ args w, (callFunc g args).run Tryz.prog w = .ok (.enter g args) w) (xs : List (List UInt8)) (hN : xs.length ≤ maxLen) (hNb : xs.length * 16 ≤ 140737488355328) (w : World)
    (hseq : GivesB Fence.wide (n - 1) Tryz.prog g lb xs w) :
    CallsIn Fence.wide n Tryz.prog 144 #[.slice none 0 0, .func (.func g) #[] lb] w fun e w' => ∃ v, e = .returned v ∧ w'.ownsRow w.heap.size 9 1 v xs.length (xs.map encStr) ∧ (v = .slice none 0 0 ↔ xs = []) ∧ Below w.heap.size w w' := by
  have L := Tryz.sorted52
  have h1 : 1 ≤ n := by omega
  have hne : (32 : TypeId) ≠ 9 := by decide
  refine callsIn_of_wp_marks Tryz.func144 rfl trivial ?_ rfl
  simp only [Tryz.ntmps144, List.size_toArray, List.length_cons, List.length_nil, Nat.reduceAdd, Nat.reduceSub, Array.replicate_succ, Array.replicate_zero, List.push_toArray, List.append_toArray, List.nil_append, List.cons_append]
  gi_wp2
  refine wpIn_rangeFunc ?_
  intro fn hfn
  obtain ⟨W0, hW0⟩ : ∃ W0, w.alloc (.cells #[.slice none 0 0] 32) = W0 := ⟨_, rfl⟩
  have hs0 : W0.heap.size = w.heap.size + 1 := by rw [← hW0]; simp
  have hv0 : W0.heap[w.heap.size]? = some (.cells #[.slice none 0 0] 32 (0, 0)) := by rw [← hW0]; exact World.alloc_heap_new w _
  have hb0 : Below w.heap.size w W0 := by rw [← hW0]; exact (Below.refl _ w).alloc (Nat.le_refl _) _
  rw [hW0]
  obtain ⟨W1, hW1⟩ : ∃ W1, (W0.alloc (.deferred (some []))).alloc (.loop (AnyZ.apRec Tryz.sorted52_ren fn (.func (.func g) #[] lb) w.heap.size W0.heap.size .ready none)) = W1 := ⟨_, rfl⟩
  have hold : ∀ k, k < W0.heap.size → W1.heap[k]? = W0.heap[k]? := fun k hk => by
    rw [← hW1]; exact (Below.heap_alloc _ _ k (by simp; omega)).trans (Below.heap_alloc _ _ k hk)
  have hb1 : Below w.heap.size w W1 := by rw [← hW1]; exact (hb0.alloc hb0.size _).alloc (by have := hb0.size; simp; omega) _
  have hs1 : W1.heap.size = W0.heap.size + 2 := by rw [← hW1]; simp
  have hM : AnyZ.ApAt Tryz.sorted52_ren w fn (.func (.func g) #[] lb) w.heap.size (W0.heap.size + 1) W0.heap.size [] W1 :=
    ⟨⟨_, (hold w.heap.size (by omega)).trans hv0, ⟨rfl, .inl ⟨rfl, rfl⟩⟩, by simp⟩,
     by rw [← hW1]; have := World.alloc_heap_new (W0.alloc (.deferred (some []))) (.loop (AnyZ.apRec Tryz.sorted52_ren fn (.func (.func g) #[] lb) w.heap.size W0.heap.size .ready none)); rwa [World.size_alloc] at this,
     by rw [← hW1]; exact (Below.heap_alloc _ _ _ (by simp)).trans (World.alloc_heap_new W0 _), hb1⟩
  refine ⟨W0.heap.size + 1, [{ target := .collected W0.heap.size, args := #[] }], W1, { target := .fn (.func g) lb, args := #[.func (.yield (W0.heap.size + 1)) #[] #[]] }, W1, g,
    #[.func (.yield (W0.heap.size + 1)) #[] #[]] ++ lb, W1, ?_, ?_, ?_, ?_, fun _ => h1, ?_⟩
  · rw [← hW1]; exact run_enterLoop_outer _ _ _ _ _
  · simp [resolve, go_sem]
  · intro f' hf'; trivial
  · simp [invoke, go_sem, eg]
  · refine (hseq (W0.heap.size + 1) (AnyZ.ApAt Tryz.sorted52_ren w fn (.func (.func g) #[] lb) w.heap.size (W0.heap.size + 1) W0.heap.size) W1 hb1 (AnyZ.ap_abides Tryz.sorted52_ren _ _ _ _ _ _ _ hb1.size) (fun pre W hJ => hJ.below)
      (fun pre x W hJ hl => AnyZ.apYield { L with } Fence.wide (n - 1 - 1) w fn hfn _ w.heap.size (W0.heap.size + 1) W0.heap.size (by omega) (by omega) (by omega) (Nat.le_refl _) (by omega) xs.length hN hNb pre x W hJ hl) hM).mono ?_
    rintro e W2 ⟨⟨v0, rfl⟩, h2⟩
    obtain ⟨v, hv, hrow, hnil⟩ := h2.box
    have hend := run_endLoop (P := Tryz.prog) h2.L (by simp [AnyZ.apRec])
    obtain ⟨W3, hW3⟩ : ∃ W3, W2.putObj (W0.heap.size + 1) (.loop { AnyZ.apRec Tryz.sorted52_ren fn (.func (.func g) #[] lb) w.heap.size W0.heap.size .ready none with state := .exhausted }) = W3 := ⟨_, rfl⟩
    rw [hW3] at hend
    have hg3 : W2.grownBy W3 (some (W0.heap.size + 1)) := by rw [← hW3]; exact grownBy_putObj_a _ _ _
    have hv3 : W3.heap[w.heap.size]? = some (.cells #[v] 32 (0, 0)) := by rw [← hW3]; exact (World.putObj_heap_other (by omega)).trans hv
    have hK3 : W3.heap[W0.heap.size]? = some (.deferred (some [])) := by rw [← hW3]; exact (World.putObj_heap_other (by omega)).trans h2.K
    have hrow3 := hrow.kept hg3 (ownsRow_ne_a hrow h2.L (fun cur e => by cases e))
    have hb3 : Below w.heap.size w W3 := h2.below.grown hg3 h2.below.size (fun k e => by cases e; omega)
    obtain ⟨hc3, hf3⟩ := cell_of_box_a hv3
    clear hW3
    refine ⟨none, W3, hend, ?_⟩
    gi_wp2
    rw [← hs0]
    refine ⟨by simp, .inl ⟨_, _, rfl, run_takeDeferred hK3, ?_⟩⟩
    exact ⟨_, results_tmp rfl _ _ _, v, rfl, hrow3.kept (grownBy_putObj_a _ _ _) (ownsRow_ne_a hrow3 hK3 (fun cur e => by cases e)), hnil, hb3.grown (grownBy_putObj_a _ _ _) hb3.size (fun k e => by cases e; omega)⟩

set_option maxHeartbeats 1000000 in
theorem collect_b (n : Nat) (hn : 3 ≤ n) (g : Nat) (lb : Array Value) (eg : ∀ args w, (callFunc g args).run Tryz.prog w = .ok (.enter g args) w) (xs : List (List UInt8)) (hN : xs.length ≤ maxLen) (hNb : xs.length * 16 ≤ 140737488355328) (w : World)
    (hseq : GivesB Fence.wide (n - 1 - 1) Tryz.prog g lb xs w) :
    CallsIn Fence.wide n Tryz.prog 106 #[.func (.func g) #[] lb] w fun e w' => ∃ v, e = .returned v ∧ w'.ownsRow w.heap.size 9 1 v xs.length (xs.map encStr) ∧ (v = .slice none 0 0 ↔ xs = []) ∧ Below w.heap.size w w' := by
  have h1 : 1 ≤ n := by omega
  have hfA : Fence.wide.fn 144 := trivial
  refine callsIn_of_wp Tryz.func106 rfl trivial ?_ rfl
  simp only [Tryz.ntmps106, List.size_toArray, List.length_cons, List.length_nil, Nat.reduceAdd, Nat.reduceSub, Array.replicate_succ, Array.replicate_zero, List.push_toArray, List.append_toArray, List.nil_append, List.cons_append]
  gi_wp2_with (gi_at_call 144; refine (appendSeq_b (n - 1) (by omega) g lb eg xs hN hNb _ hseq).mono ?_; rintro e w' ⟨v, rfl, hrow, hnil, hb⟩)
  go_ret
  exact ⟨v, rfl, hrow, hnil, hb⟩

set_option maxRecDepth 100000 in
set_option maxHeartbeats 2000000 in
theorem sorted_b (n : Nat) (hn : 4 ≤ n) (g : Nat) (lb : Array Value) (eg : ∀ args w, (callFunc g args).run Tryz.prog w = .ok (.enter g args) w) (xs : List (List UInt8)) (hN : xs.length ≤ maxLen) (hNb : xs.length * 16 ≤ 140737488355328) (w : World)
    (hseq : GivesB Fence.wide (n - 1 - 1 - 1) Tryz.prog g lb xs w) :
    CallsIn Fence.wide n Tryz.prog 52 #[.func (.func g) #[] lb] w fun e w' => ∃ v, e = .returned v ∧ w'.ownsRow w.heap.size 9 1 v xs.length ((xs.mergeSort (fun x y => decide (x ≤ y))).map encStr) ∧ (v = .slice none 0 0 ↔ xs = []) ∧ Below w.heap.size w w' := by
  have h1 : 1 ≤ n := by omega
  have hfA : Fence.wide.fn 106 := trivial
  have hfS : Fence.wide.fn 107 := trivial
  have hsort := Tryz.sorts52 (n - 1)
  have hsort1 := hsort.1
  have hsort2 := hsort.2
  refine callsIn_of_wp Tryz.func52 rfl trivial ?_ rfl
  simp only [Tryz.ntmps52, List.size_toArray, List.length_cons, List.length_nil, Nat.reduceAdd, Nat.reduceSub, Array.replicate_succ, Array.replicate_zero, List.push_toArray, List.append_toArray, List.nil_append, List.cons_append]
  gi_wp2_with (gi_at_call 106; refine (collect_b (n - 1) (by omega) g lb eg xs hN hNb _ hseq).mono ?_; rintro e W ⟨v, rfl, hrow, hnil, hb⟩)
  rcases hrow.2 with ⟨rfl, hz⟩ | ⟨gb, cap, cur, rfl, hbase, hgb, r1, r2, r3, r4⟩
  · have hss : xs = [] := List.eq_nil_of_length_eq_zero hz
    subst hss
    gi_wp2_with (gi_at_call 107; refine (hsort2 none 0 W).mono ?_; rintro e w' ⟨rfl, rfl⟩)
    go_ret
    exact ⟨.slice none 0 0, rfl, by simpa using hrow, by simp, hb⟩
  · have hH : Holds encStr W gb 0 xs.toArray := holds_of_block hgb (by simpa using r4)
    have hgl : gb < W.heap.size := (Array.getElem?_eq_some_iff.1 hgb).1
    have hsz : xs.length < 4611686018427387904 := by omega
    have cS := hsort1 gb 0 cap xs W hH hgl hsz
    gi_wp2_with (gi_at_call 107; refine cS.mono ?_; rintro e w' ⟨rfl, nn, os, rfl⟩)
    go_ret
    exact ⟨_, rfl, ownsRow_sorted (by simp) hbase hgb r1 r2 r3, hnil, hb.grown (grownBy_sorted _) hb.size (fun j hj => by cases hj; exact hbase)⟩

set_option maxRecDepth 100000 in
set_option maxHeartbeats 2000000 in
/-- The iterator over a slice's values. -/
theorem values_gives (n : Nat) (hn : 1 ≤ n) (gs : List ByteArray) (v : Value) (w : World) (hg : Strs w v gs) (Bm : Nat) (hBm : w.heap[Bm]? = some (.cells #[v] 32 (0, 0))) :
    GivesB Fence.wide n Tryz.prog 154 #[.pointer (some ⟨Bm, 0, none⟩)] (gs.map fun s => s.data.toList) w := by
  intro l J W hW hJ hB hY h0
  obtain ⟨A, cap, hv⟩ : ∃ A cap, v = .slice A gs.length cap := let ⟨⟨A, cap, h, _⟩, _⟩ := hg; ⟨A, cap, h⟩
  subst hv
  have hlen := hg.2
  have y0 : W.cell? ⟨Bm, 0, none⟩ = some (.slice A gs.length cap) := blk_cell (blk_below hBm hW (blk_lt hBm)) 0
  have HG := Lib.hid hg
  have HY := Lib.hid hY
  have HB := Lib.hid hB
  have H0 := Lib.hid h0
  clear hg hY hB h0 hJ hBm
  refine callsIn_of_wp Tryz.func154 rfl trivial ?_ rfl
  simp only [Tryz.ntmps154, List.size_toArray, List.length_cons, List.length_nil, Nat.reduceAdd, Nat.reduceSub, Array.replicate_succ, Array.replicate_zero, List.push_toArray, List.append_toArray, List.nil_append, List.cons_append]
  gi_wp2
  gi_loopw [7] (fun s7 wr => ∃ k : Nat, k ≤ gs.length ∧ s7 = .int .i64 k ∧ J ((gs.map fun s => s.data.toList).take k) wr) (fun s7 _ => gs.length - (intOf s7).toNat)
  case atStart => exact ⟨0, Nat.zero_le _, rfl, by simpa using H0.out⟩
  case round =>
    obtain ⟨k, hk, rfl, hJ⟩ := hrel
    by_cases hlt : k < gs.length
    · have hlt' : (k : Int) < (gs.length : Int) := by omega
      have hwB := HB.out _ _ hJ
      obtain ⟨b, off, rfl, y⟩ : ∃ b off, A = some ⟨b, off, none⟩ ∧ wr.cell? ⟨b, off + k, none⟩ = some (.string gs[k]) := by
        obtain ⟨⟨A', cap', hv, hf⟩, _⟩ := HG.out
        obtain ⟨b, off, hA, hlb, hc⟩ := hf (by omega)
        obtain ⟨rfl, rfl⟩ : A = A' ∧ cap = cap' := by simpa using hv
        refine ⟨b, off, hA, (hwB.cell hlb).trans ((hc k hlt).trans ?_)⟩
        rw [List.getD_eq_getElem?_getD, List.getElem?_eq_getElem hlt]; rfl
      obtain ⟨fn, tmps, assign, body, hy, hR⟩ := HY.out _ gs[k].data.toList wr hJ (by simp; omega)
      have hw : IntKind.i64.wrap ((k : Int) + 1) = (k : Int) + 1 := IntWalk.i64_in _ (by omega)
      have HR := Lib.hid hR
      have HK := Lib.hid hk
      clear hR hk hwB hJ HG
      have hes : encStr gs[k].data.toList = .string gs[k] := rfl
      rw [hes] at hy
      gi_wp2
      refine HR.out.mono ?_
      rintro e W3 ⟨rfl, hJ3, hk3⟩
      gi_wp2
      have HJ := Lib.hid hJ3
      clear hJ3
      go_roundw
      case rel => exact ⟨k + 1, by omega, by go_num, by
        have e1 : (gs.map fun s => s.data.toList).take (k + 1) = (gs.map fun s => s.data.toList).take k ++ [gs[k].data.toList] := by
          rw [List.take_succ_eq_append_getElem (by simpa using hlt)]; simp
        rw [e1]; exact HJ.out⟩
      case measure => simp [intOf]; omega
    · have e1 : k = gs.length := by omega
      subst e1
      have HJ := Lib.hid hJ
      clear hJ
      gi_wp2
      go_end0
      exact ⟨⟨_, rfl⟩, by have := HJ.out; rwa [List.take_of_length_le (by simp)] at this⟩

set_option maxHeartbeats 1000000 in
theorem values_call (A : Option Addr) (n c : Nat) (w : World) :
    Calls Tryz.prog 116 #[.slice A n c] w fun e w' => e = .returned (.func (.func 154) #[] #[.pointer (some ⟨w.heap.size, 0, none⟩)]) ∧ w' = w.alloc (.cells #[.slice A n c] 32) := by
  go_enter Tryz.func116, Tryz.ntmps116
  go_wp2
  go_ret
  exact ⟨rfl, rfl⟩

theorem sorted_call (gs : List ByteArray) (hl : gs.length ≤ 1000000) (v : Value) (w : World) (hg : Strs w v gs) :
    Calls Tryz.prog 52 #[.func (.func 154) #[] #[.pointer (some ⟨w.heap.size, 0, none⟩)]] (w.alloc (.cells #[v] 32)) fun e w' => ∃ A c, e = .returned (.slice A gs.length c) ∧
      w'.ownsRow w.heap.size 9 1 (.slice A gs.length c) gs.length (((gs.map fun s => s.data.toList).mergeSort (fun x y => decide (x ≤ y))).map encStr) ∧ Below w.heap.size w w' := by
  have h := sorted_b 5 (by omega) 154 #[.pointer (some ⟨w.heap.size, 0, none⟩)] (enters_of Tryz.func154 (by kernel_rfl) rfl) (gs.map fun s => s.data.toList) (by simp [maxLen]; omega) (by simp; omega) (w.alloc (.cells #[v] 32))
    (values_gives 2 (by omega) gs v _ (hg.below ((Below.refl _ _).alloc (Nat.le_refl _) _)) w.heap.size (blk_new _ _))
  refine (callsIn_wide.1 h).mono ?_
  rintro e w' ⟨v', rfl, hrow, _, hb⟩
  simp only [List.length_map] at hrow
  have hb' : Below w.heap.size w w' := ((Below.refl _ _).alloc (Nat.le_refl _) _).trans (hb.mono (by simp))
  rcases hrow.2 with ⟨rfl, h0⟩ | ⟨g, cap, cur, rfl, h1, rest⟩
  · exact ⟨none, 0, by rw [h0], by rw [h0] at hrow ⊢; exact ⟨hrow.1, .inl ⟨rfl, rfl⟩⟩, hb'⟩
  · exact ⟨_, cap, rfl, ⟨hrow.1, .inr ⟨g, cap, cur, rfl, by have := h1; simp at this; omega, rest⟩⟩, hb'⟩

theorem compact_le (zs : List (List UInt8)) : (Lib.compact zs).length ≤ zs.length := by
  unfold Lib.compact Lib.compactUpTo
  rw [List.length_map]
  exact Nat.le_trans (List.length_filter_le _ _) (by simp)

theorem seq_of_row {w : World} {base : Nat} {e : TypeId} {g n cap m : Nat} {xs ys : List Value} (h : w.ownsRow base e 1 (.slice (some ⟨g, 0, none⟩) n cap) n (xs ++ ys)) (hx : xs.length = m) : Seq w base e 1 (.slice (some ⟨g, 0, none⟩) m cap) m xs := by
  rcases h.2 with ⟨h0, _⟩ | ⟨g', cap', cur, hv, hb, hc, h1, h2, h3, h4⟩
  · cases h0
  · cases hv
    have hl := h.1
    rw [List.length_append] at hl
    refine ⟨by omega, .inr ⟨g, 0, cap, cur, rfl, hb, hc, by omega, h2, by rw [h3]; omega, ?_⟩⟩
    have h5 : (cur.toList.take (n * 1)).take m = (xs ++ ys).take m := by rw [h4]
    rw [List.take_take, show min m (n * 1) = m by omega, List.take_append_of_le_length (by omega)] at h5
    rw [List.drop_zero, Nat.mul_one, h5]
    exact List.take_of_length_le (by omega)

set_option maxRecDepth 100000 in
set_option maxHeartbeats 2000000 in
/-- Texts, rising, none twice, in new memory. -/
theorem sorted_any (w : World) (v : Value) (gs : List ByteArray) (hg : Strs w v gs) (hl : gs.length ≤ 1000000) :
    Calls Tryz.prog 64 #[v] w fun e w' => ∃ A c, e = .returned (.slice A (sortG gs).length c) ∧ Below w.heap.size w w' ∧ Seq w' w.heap.size 9 1 (.slice A (sortG gs).length c) (sortG gs).length (flatS (sortG gs)) := by
  obtain ⟨A, cap, hv⟩ : ∃ A cap, v = .slice A gs.length cap := let ⟨⟨A, cap, h, _⟩, _⟩ := hg; ⟨A, cap, h⟩
  subst hv
  have hsc := sorted_call gs hl _ w hg
  obtain ⟨zs, hzs⟩ : ∃ zs, (gs.map fun s => s.data.toList).mergeSort (fun x y => decide (x ≤ y)) = zs := ⟨_, rfl⟩
  have hzl : zs.length = gs.length := by rw [← hzs]; simp
  have hso2 : sortG gs = (Lib.compact zs).map lb := by rw [← hzs]; rfl
  have hfl : flatS ((Lib.compact zs).map lb) = (Lib.compact zs).map encStr := by unfold flatS; rw [List.map_map]; rfl
  rw [hzs] at hsc
  rw [hso2, hfl, List.length_map]
  have HC := Lib.hid hsc
  have HL := Lib.hid hl
  have HZ := Lib.hid hzl
  clear hg hl hsc hzs hso2 hfl hzl
  go_enter Tryz.func64, Tryz.ntmps64
  go_wp2_with fail
  refine (values_call _ _ _ _).mono ?_
  rintro e w1 ⟨rfl, rfl⟩
  go_wp2_with fail
  refine HC.out.mono ?_
  rintro e w2 ⟨A2, c2, rfl, hrow, hb2⟩
  have hzl := HZ.out
  rcases hrow.2 with ⟨hn, hz⟩ | ⟨gb, cp, cur, hv2, hbase, hgb, r1, r2, r3, r4⟩
  · obtain ⟨rfl, h0, rfl⟩ : A2 = none ∧ gs.length = 0 ∧ c2 = 0 := by simpa using hn
    have hz0 : zs = [] := List.eq_nil_of_length_eq_zero (by omega)
    subst hz0
    have HB := Lib.hid hb2
    have e0 : (Value.slice none gs.length 0) = .slice none 0 0 := by rw [h0]
    rw [e0]
    clear hrow hz hb2 HC HL hzl hn e0
    go_wp2_with fail
    refine (Tryz.slices_Compact_string_empty none 0 w2).mono ?_
    rintro e w3 ⟨rfl, rfl⟩
    go_wp2_with fail
    go_ret
    exact ⟨none, 0, rfl, HB.out, Seq.nil _ _ _ _⟩
  · obtain ⟨rfl, rfl⟩ : A2 = some ⟨gb, 0, none⟩ ∧ c2 = cp := by simpa using hv2
    have hH : Holds encStr w2 gb 0 zs.toArray := holds_of_block hgb (by rw [hzl]; simpa using r4)
    have C := Tryz.slices_Compact_string gb 0 c2 zs w2 hH (by have := HL.out; omega) (by omega)
    rw [hzl] at C
    clear hzl
    have HR := Lib.hid hrow
    have HC2 := Lib.hid C
    have HB := Lib.hid (And.intro hb2 (And.intro hbase (And.intro hgb (And.intro r1 (And.intro r2 r3)))))
    clear hrow C hb2 hbase hgb r1 r2 r3 r4 hH HC hv2
    go_wp2_with fail
    refine HC2.out.mono ?_
    rintro e w3 ⟨rfl, q, hw3⟩
    obtain ⟨hb2, hbase, hgb, r1, r2, r3⟩ := HB.out
    have hzl := HZ.out
    have hcl := compact_le zs
    have hrow3 := ownsRow_sorted (n := q) (os := #[]) (ss := zs) (ts := Lib.compact zs ++ List.replicate (gs.length - (Lib.compact zs).length) []) (by simp; omega) hbase hgb (by omega) r2 r3
    have hgr := grownBy_sorted (w := w2) (g := gb) (n := q) (os := #[]) (Lib.compact zs ++ List.replicate (gs.length - (Lib.compact zs).length) []).toArray
    rw [grow_empty, ← hw3] at hrow3 hgr
    rw [List.map_append] at hrow3
    have hseq := seq_of_row (m := (Lib.compact zs).length) hrow3 (by simp)
    have hb3 : Below w.heap.size w w3 := hb2.grown hgr hb2.size (fun j hj => by cases hj; exact hbase)
    have HF := Lib.hid (And.intro hb3 hseq)
    clear hrow3 hgr hseq hb3 hw3 hb2 hbase hgb r1 r2 r3 hcl HR HC2 HB hzl
    go_wp2_with fail
    go_ret
    exact ⟨_, _, rfl, HF.out.1, HF.out.2⟩

end Go.Proofs.YthbjcihdlhkboaaGreatDoor
