/- Act, as a whole. -/
import Derived.Test.YthbjcihdlhkboaaGreatDoorQ13
namespace Go.Proofs.YthbjcihdlhkboaaGreatDoor
set_option linter.unusedSimpArgs false
set_option linter.unusedVariables false
open Go.RowKit Go.Maps Go.Shelf Go.Lib

theorem RS.set_ver (R : RS) (e : Ent) : (R.set e).ver = R.ver ∧ (R.set e).items = R.items ∧ (R.set e).asks = R.asks ∧ (R.set e).next = R.next := by
  unfold RS.set RS.put RS.del
  split <;> exact ⟨rfl, rfl, rfl, rfl⟩

theorem RS.act_ver {R : RS} {s : ByteArray} {k : Int} {r : RS × Int × Int × Bool} (h : R.act s k = .ok r) : r.1.ver = R.ver := by
  unfold RS.act at h
  split at h
  · split at h
    · split at h
      · simp only [Except.ok.injEq] at h; subst h; rfl
      · split at h
        · cases h
        · simp only [Except.ok.injEq] at h; subst h
          rw [(RS.set_ver _ _).1]
          split <;> rfl
    · cases h
  · cases h

/-- An act: the new roster; the answer. -/
def RS.actAll (R : RS) (s : ByteArray) (k : Int) : RS × Int × Int × Bool × Int :=
  match R.act s k with
  | .error c => (R, 0, 0, false, c)
  | .ok (R', m, nn, ch) => (if ch then { R' with ver := R'.ver + 1 } else R', m, nn, ch, 0)

theorem upd_of_boxes {w w0 w1 : World} {ks : Nat → Prop} {C : Nat} (h0 : Below w.heap.size w w0) (hu : Upd C ks w0 w1) (hC : w.heap.size ≤ C) {rb mb : Nat} (hk : ∀ k, ks k → k = rb ∨ k = mb ∨ w.heap.size ≤ k) :
    Upd w.heap.size (fun k => k = rb ∨ k = mb) w w1 :=
  ⟨hu.os.trans h0.os, hu.tape.trans h0.tape, hu.output.trans h0.output, Nat.le_trans h0.size hu.size, fun k hlt hn =>
    (hu.block k (by omega) (fun e => by rcases hk k e with e | e | e; exact hn (.inl e); exact hn (.inr e); omega)).trans (h0.block k hlt)⟩

/-- The world at the head of what is tried: the six variables, and the error. -/
abbrev actW (w : World) (rb : Nat) (s : ByteArray) (k : Int) : World :=
  (((((w.alloc (.cells #[.pointer (some ⟨rb, 0, none⟩)] 42)).alloc (.cells #[.string s] 9)).alloc (.cells #[.int .i64 k] 3)).alloc (.cells #[.int .i64 0] 3)).alloc (.cells #[.int .u64 0] 45)).alloc (.cells #[.bool false] 4)
theorem actW_size (w : World) (rb : Nat) (s : ByteArray) (k : Int) : (actW w rb s k).heap.size = w.heap.size + 6 := by simp
theorem actW_below (w : World) (rb : Nat) (s : ByteArray) (k : Int) : Below w.heap.size w (actW w rb s k) :=
  (((((((Below.refl _ _).alloc (Nat.le_refl _) _).alloc (by simp) _).alloc (by simp <;> omega) _).alloc (by simp <;> omega) _).alloc (by simp <;> omega) _).alloc (by simp <;> omega) _)
theorem actW_box (w : World) (rb : Nat) (s : ByteArray) (k : Int) : ActBox (actW w rb s k) w.heap.size rb s k 0 0 false where
  b0 := blk_alloc (blk_alloc (blk_alloc (blk_alloc (blk_alloc (blk_new _ _) _) _) _) _) _
  b1 := blk_alloc (blk_alloc (blk_alloc (blk_alloc (blk_new' _ (by simp)) _) _) _) _
  b2 := blk_alloc (blk_alloc (blk_alloc (blk_new' _ (by simp)) _) _) _
  b3 := blk_alloc (blk_alloc (blk_new' _ (by simp)) _) _
  b4 := blk_alloc (blk_new' _ (by simp)) _
  b5 := blk_new' _ (by simp)

set_option maxRecDepth 100000 in
set_option maxHeartbeats 8000000 in
/-- What is tried of an act. -/
theorem act_tried {w : World} {B rb mb n : Nat} {D : DataW Value} {R : RS} (h : RoAt w B rb mb n D R) (hT : Tabs w) (s : ByteArray) (k : Int) (hs : s.size ≤ 9223372036854775807) (hn : n ≤ 1000000) (hB : B ≤ w.heap.size) (hn0 : 0 ≤ R.next) (hn1 : R.next < 18446744073709551615) :
    Calls Tryz.prog 58 #[.func (.func 68) #[] (actCaps w.heap.size)] (actW w rb s k) fun e w' =>
      match R.act s k with
      | .error c => e = .returned (.int .i64 c) ∧ RoAt w' B rb mb n D R ∧ Below w.heap.size w w' ∧ ActBox w' w.heap.size rb s k 0 0 false
      | .ok r => e = .returned (.int .i64 0) ∧ (∃ n' D', n' ≤ n + 1 ∧ RoAt w' B rb mb n' D' r.1) ∧ Upd w.heap.size (fun k => k = rb ∨ k = mb) w w' ∧ ActBox w' w.heap.size rb s k r.2.1 r.2.2.1 r.2.2.2 := by
  have hE : ∀ args w, (callFunc 68 args).run Tryz.prog w = .ok (.enter 68 args) w := enters_of Tryz.func68 (by kernel_rfl) rfl
  have hbA := actW_below w rb s k
  have hsz := actW_size w rb s k
  have hbx := actW_box w rb s k
  generalize actW w rb s k = WA at *
  obtain ⟨E, hEe⟩ : ∃ E, (Obj.cells #[.int .i64 0] 24) = E := ⟨_, rfl⟩
  have hbE : Below WA.heap.size WA (WA.alloc E) := (Below.refl _ _).alloc (Nat.le_refl _) _
  have hbWE : Below w.heap.size w (WA.alloc E) := hbA.trans (hbE.mono (by omega))
  have hszE : (WA.alloc E).heap.size = w.heap.size + 7 := by simp; omega
  have hlt := h.lt
  have hC := act1_any (h.below hbWE) (hT.later hbWE) w.heap.size s k hs (hbx.below hbE) hn (by omega) hlt hn0 hn1
  have hbox : (WA.alloc E).heap[WA.heap.size]? = some E := blk_new _ _
  cases hr : R.act s k with
  | error c =>
    rw [hr] at hC
    simp only
    subst hEe
    refine (tries_no 68 (actCaps w.heap.size) WA c (fun w' => Below (WA.alloc (.cells #[.int .i64 0] 24)).heap.size (WA.alloc (.cells #[.int .i64 0] 24)) w') hE (hC.mono fun e w' ⟨a, b⟩ => ⟨a, blk_below hbox b (blk_lt hbox), b⟩)).mono ?_
    rintro e w' ⟨rfl, w1, hb1, hx1, rfl⟩
    have hb2 : Below w.heap.size w w1 := hbWE.trans (hb1.mono (by omega))
    have hu : Upd w1.heap.size (fun k => k = WA.heap.size) w1 (w1.setCell ⟨WA.heap.size, 0, none⟩ (.int .i64 c)) := Upd.setCell (ks := fun k => k = WA.heap.size) (Upd.refl _ _ _) (a := (⟨WA.heap.size, 0, none⟩ : Addr)) (.inl rfl) _
    refine ⟨rfl, ?_, ?_, ?_⟩
    · refine RoAtK.upd (h.below hb2) hu (Nat.le_refl _) (by omega) (by omega) ?_
      rintro k cur hk _ e
      subst e
      rw [hx1] at hk
      simp at hk
    · exact Below.setCell hb2 (by show w.heap.size ≤ WA.heap.size; omega) _
    · exact ((hbx.below hbE).below hb1).upd hu (Nat.le_refl _) (fun j hj e => by omega)
  | ok r =>
    obtain ⟨R', m, nn, ch⟩ := r
    rw [hr] at hC
    simp only
    subst hEe
    refine (tries_ok 68 (actCaps w.heap.size) WA (fun w' => ActDone (WA.alloc (.cells #[.int .i64 0] 24)) w' B rb mb n w.heap.size R' m nn ch) hE (hC.mono fun e w' ⟨a, b⟩ => ⟨a, blk_upd hbox b.upd (blk_lt hbox) (by rintro (e | e | e | e | e) <;> omega), b⟩)).mono ?_
    rintro e w' ⟨rfl, w1, hd, hx1, rfl⟩
    have hu : Upd w1.heap.size (fun k => k = WA.heap.size) w1 (w1.setCell ⟨WA.heap.size, 0, none⟩ (.int .i64 0)) := Upd.setCell (ks := fun k => k = WA.heap.size) (Upd.refl _ _ _) (a := (⟨WA.heap.size, 0, none⟩ : Addr)) (.inl rfl) _
    have hbx2 := hbx.below hbE
    have old : ∀ (j : Nat) (o : Obj), j < 3 → (WA.alloc (.cells #[.int .i64 0] 24)).heap[w.heap.size + j]? = some o → w1.heap[w.heap.size + j]? = some o := fun j o hj ho => blk_upd ho hd.upd (blk_lt ho) (by rintro (e | e | e | e | e) <;> omega)
    refine ⟨rfl, ?_, ?_, ?_⟩
    · obtain ⟨n', D', hn', hro⟩ := hd.ro
      refine ⟨n', D', hn', RoAtK.upd hro hu (Nat.le_refl _) (by omega) (by omega) ?_⟩
      rintro k cur hk _ e
      subst e
      rw [hx1] at hk
      simp at hk
    · exact (upd_of_boxes hbWE hd.upd (by omega) (by rintro k (e | e | e | e | e); exact .inl e; exact .inr (.inl e); all_goals exact .inr (.inr (by omega)))).setCell (.inr (by show w.heap.size ≤ WA.heap.size; omega)) _
    · exact ActBox.upd ⟨old 0 _ (by omega) hbx2.b0, old 1 _ (by omega) hbx2.b1, old 2 _ (by omega) hbx2.b2, hd.b3, hd.b4, hd.b5⟩ hu (Nat.le_refl _) (fun j hj e => by omega)

theorem upd_ksA {w w1 : World} {rb mb : Nat} (hu : Upd w.heap.size (fun k => k = rb ∨ k = mb) w w1) : Upd w.heap.size (fun k => k = rb ∨ k = mb ∨ k = w.heap.size + 3 ∨ k = w.heap.size + 4 ∨ k = w.heap.size + 5) w w1 :=
  ⟨hu.os, hu.tape, hu.output, hu.size, fun k hk hn => hu.block k hk (by rintro (e | e); exact hn (.inl e); exact hn (.inr (.inl e)))⟩
theorem upd_ksB {w w1 : World} {rb mb : Nat} (hu : Upd w.heap.size (fun k => k = rb ∨ k = mb ∨ k = w.heap.size + 3 ∨ k = w.heap.size + 4 ∨ k = w.heap.size + 5) w w1) : Upd w.heap.size (fun k => k = rb ∨ k = mb) w w1 :=
  ⟨hu.os, hu.tape, hu.output, hu.size, fun k hk hn => hu.block k hk (by rintro (e | e | e | e | e); exact hn (.inl e); exact hn (.inr e); all_goals omega)⟩

def AnyRo (w w' : World) (B rb mb n : Nat) (R : RS) : Prop := ∃ n' D', n' ≤ n ∧ RoAt w' B rb mb n' D' R

set_option maxRecDepth 100000 in
set_option maxHeartbeats 8000000 in
/-- Act from what was tried on: ver is counted where an item has changed. -/
theorem ract_go {w : World} {B rb mb n : Nat} {R R' : RS} (hrb : rb < w.heap.size ∧ mb < w.heap.size) (s : ByteArray) (k m nn : Int) (ch : Bool) (c : Int) (hv0 : 0 ≤ R'.ver) (hv1 : R'.ver < 18446744073709551615)
    (C : Calls Tryz.prog 58 #[.func (.func 68) #[] (actCaps w.heap.size)] (actW w rb s k) fun e w' =>
      e = .returned (.int .i64 c) ∧ (∃ n' D', n' ≤ n + 1 ∧ RoAt w' B rb mb n' D' R') ∧ Upd w.heap.size (fun k => k = rb ∨ k = mb) w w' ∧ ActBox w' w.heap.size rb s k m nn ch) :
    Calls Tryz.prog 25 #[.pointer (some ⟨rb, 0, none⟩), .string s, .int .i64 k] w fun e w' =>
      e = .returned (.tuple #[.int .i64 m, .int .u64 nn, .bool ch, .int .i64 c]) ∧ AnyRo w w' B rb mb (n + 1) (if ch then { R' with ver := R'.ver + 1 } else R') ∧ Upd w.heap.size (fun k => k = rb ∨ k = mb) w w' := by
  have HC := Lib.hid C
  have hmf : ∀ (fn : Fn) (first cap : Array Value) (w : World), (Instr.makeFunc fn first cap).run Tryz.prog w = .ok (.func fn first cap) w := fun _ _ _ _ => rfl
  have wv : IntKind.u64.wrap (R'.ver + 1) = R'.ver + 1 := IntWalk.u64_in _ (by omega)
  clear C
  cases ch
  all_goals
    go_enter Tryz.func25, Tryz.ntmps25
    go_wp2_with fail
    refine HC.out.mono ?_
    rintro e w1 ⟨rfl, ⟨n', D', hn', hro⟩, hu, hbx⟩
    have HB := Lib.hid (And.intro hn' (And.intro hro (And.intro hu hbx)))
    have q0 : w1.cell? ⟨w.heap.size, 0, none⟩ = some (.pointer (some ⟨rb, 0, none⟩)) := blk_cell hbx.b0 0
    have q3 : w1.cell? ⟨w.heap.size + 3, 0, none⟩ = some (.int .i64 m) := blk_cell hbx.b3 0
    have q4 : w1.cell? ⟨w.heap.size + 4, 0, none⟩ = some (.int .u64 nn) := blk_cell hbx.b4 0
    have q5 : w1.cell? ⟨w.heap.size + 5, 0, none⟩ = some (.bool _) := blk_cell hbx.b5 0
    have f3 : w1.frozen? ⟨w.heap.size + 3, 0, none⟩ = false := blk_frozen hbx.b3 0
    have f4 : w1.frozen? ⟨w.heap.size + 4, 0, none⟩ = false := blk_frozen hbx.b4 0
    have f5 : w1.frozen? ⟨w.heap.size + 5, 0, none⟩ = false := blk_frozen hbx.b5 0
    have r2 : w1.cell? ⟨rb, 2, none⟩ = some (.int .u64 R'.ver) := blk_cell hro.cells 2
    have rz2 : w1.frozen? ⟨rb, 2, none⟩ = false := blk_frozen hro.cells 2
    have n1 : ¬ rb = w.heap.size + 3 := by omega
    have n2 : ¬ rb = w.heap.size + 4 := by omega
    have n3 : ¬ rb = w.heap.size + 5 := by omega
    clear hn' hro hu hbx
    go_wp2_with fail
  · obtain ⟨hn2, hro2, hu2, hbx2⟩ := HB.out
    have hb3 := hbx2.b3
    have hb4 := hbx2.b4
    have hb5 := hbx2.b5
    clear hbx2
    have hd := act_fin (W := w) (g := w.heap.size) ⟨n', D', hn2, hro2⟩ (upd_ksA hu2) hrb hb3 hb4 hb5 m nn false
    have HD := Lib.hid hd
    have p3 : w1.cell? ⟨w.heap.size + 1 + 1 + 1, 0, none⟩ = some (.int .i64 m) := blk_cell hb3 0
    have p4 : w1.cell? ⟨w.heap.size + 1 + 1 + 1 + 1, 0, none⟩ = some (.int .u64 nn) := blk_cell hb4 0
    have p5 : w1.cell? ⟨w.heap.size + 1 + 1 + 1 + 1 + 1, 0, none⟩ = some (.bool false) := blk_cell hb5 0
    have g3 : w1.frozen? ⟨w.heap.size + 1 + 1 + 1, 0, none⟩ = false := blk_frozen hb3 0
    have g4 : w1.frozen? ⟨w.heap.size + 1 + 1 + 1 + 1, 0, none⟩ = false := blk_frozen hb4 0
    have g5 : w1.frozen? ⟨w.heap.size + 1 + 1 + 1 + 1 + 1, 0, none⟩ = false := blk_frozen hb5 0
    clear hd hb3 hb4 hb5 hn2 hro2 hu2 HB q0 q3 q4 q5 f3 f4 f5 r2 rz2
    go_region
    all_goals
      go_wp2_with fail
      have k3 : (((w1.setCell ⟨w.heap.size + 3, 0, none⟩ (.int .i64 m)).setCell ⟨w.heap.size + 4, 0, none⟩ (.int .u64 nn)).setCell ⟨w.heap.size + 5, 0, none⟩ (.bool false)).drew.cell? ⟨w.heap.size + 1 + 1 + 1, 0, none⟩ = some (.int .i64 m) := blk_cell HD.out.b3 0
      have k4 : (((w1.setCell ⟨w.heap.size + 3, 0, none⟩ (.int .i64 m)).setCell ⟨w.heap.size + 4, 0, none⟩ (.int .u64 nn)).setCell ⟨w.heap.size + 5, 0, none⟩ (.bool false)).drew.cell? ⟨w.heap.size + 1 + 1 + 1 + 1, 0, none⟩ = some (.int .u64 nn) := blk_cell HD.out.b4 0
      have k5 : (((w1.setCell ⟨w.heap.size + 3, 0, none⟩ (.int .i64 m)).setCell ⟨w.heap.size + 4, 0, none⟩ (.int .u64 nn)).setCell ⟨w.heap.size + 5, 0, none⟩ (.bool false)).drew.cell? ⟨w.heap.size + 1 + 1 + 1 + 1 + 1, 0, none⟩ = some (.bool false) := blk_cell HD.out.b5 0
      generalize (((w1.setCell ⟨w.heap.size + 3, 0, none⟩ (.int .i64 m)).setCell ⟨w.heap.size + 4, 0, none⟩ (.int .u64 nn)).setCell ⟨w.heap.size + 5, 0, none⟩ (.bool false)).drew = WW at *
      simp [bodyPost, results, Tryz.results25, go_sem, k3, k4, k5]
      exact ⟨HD.out.ro, upd_ksB HD.out.upd⟩
  · obtain ⟨hn2, hro1, hu1, hbx2⟩ := HB.out
    have hro2 : RoAt (w1.setCell ⟨rb, 2, none⟩ (.int .u64 (R'.ver + 1))) B rb mb n' D' { R' with ver := R'.ver + 1 } := RoAtK.field hro1 2 _ rfl rfl
    have hu2 : Upd w.heap.size (fun k => k = rb ∨ k = mb) w (w1.setCell ⟨rb, 2, none⟩ (.int .u64 (R'.ver + 1))) := hu1.setCell (.inl (.inl rfl)) _
    have hb3 := blk_set_other hbx2.b3 (a := (⟨rb, 2, none⟩ : Addr)) (.int .u64 (R'.ver + 1)) (fun e => n1 e.symm)
    have hb4 := blk_set_other hbx2.b4 (a := (⟨rb, 2, none⟩ : Addr)) (.int .u64 (R'.ver + 1)) (fun e => n2 e.symm)
    have hb5 := blk_set_other hbx2.b5 (a := (⟨rb, 2, none⟩ : Addr)) (.int .u64 (R'.ver + 1)) (fun e => n3 e.symm)
    generalize w1.setCell ⟨rb, 2, none⟩ (.int .u64 (R'.ver + 1)) = w2 at hro2 hu2 hb3 hb4 hb5 ⊢
    clear hbx2 hro1 hu1
    have hd := act_fin (W := w) (g := w.heap.size) ⟨n', D', hn2, hro2⟩ (upd_ksA hu2) hrb hb3 hb4 hb5 m nn true
    have HD := Lib.hid hd
    have p3 : w2.cell? ⟨w.heap.size + 1 + 1 + 1, 0, none⟩ = some (.int .i64 m) := blk_cell hb3 0
    have p4 : w2.cell? ⟨w.heap.size + 1 + 1 + 1 + 1, 0, none⟩ = some (.int .u64 nn) := blk_cell hb4 0
    have p5 : w2.cell? ⟨w.heap.size + 1 + 1 + 1 + 1 + 1, 0, none⟩ = some (.bool true) := blk_cell hb5 0
    have g3 : w2.frozen? ⟨w.heap.size + 1 + 1 + 1, 0, none⟩ = false := blk_frozen hb3 0
    have g4 : w2.frozen? ⟨w.heap.size + 1 + 1 + 1 + 1, 0, none⟩ = false := blk_frozen hb4 0
    have g5 : w2.frozen? ⟨w.heap.size + 1 + 1 + 1 + 1 + 1, 0, none⟩ = false := blk_frozen hb5 0
    clear hd hb3 hb4 hb5 hn2 hro2 hu2 HB q0 q3 q4 q5 f3 f4 f5 r2 rz2
    go_region
    all_goals
      go_wp2_with fail
      have k3 : (((w2.setCell ⟨w.heap.size + 3, 0, none⟩ (.int .i64 m)).setCell ⟨w.heap.size + 4, 0, none⟩ (.int .u64 nn)).setCell ⟨w.heap.size + 5, 0, none⟩ (.bool true)).drew.cell? ⟨w.heap.size + 1 + 1 + 1, 0, none⟩ = some (.int .i64 m) := blk_cell HD.out.b3 0
      have k4 : (((w2.setCell ⟨w.heap.size + 3, 0, none⟩ (.int .i64 m)).setCell ⟨w.heap.size + 4, 0, none⟩ (.int .u64 nn)).setCell ⟨w.heap.size + 5, 0, none⟩ (.bool true)).drew.cell? ⟨w.heap.size + 1 + 1 + 1 + 1, 0, none⟩ = some (.int .u64 nn) := blk_cell HD.out.b4 0
      have k5 : (((w2.setCell ⟨w.heap.size + 3, 0, none⟩ (.int .i64 m)).setCell ⟨w.heap.size + 4, 0, none⟩ (.int .u64 nn)).setCell ⟨w.heap.size + 5, 0, none⟩ (.bool true)).drew.cell? ⟨w.heap.size + 1 + 1 + 1 + 1 + 1, 0, none⟩ = some (.bool true) := blk_cell HD.out.b5 0
      generalize (((w2.setCell ⟨w.heap.size + 3, 0, none⟩ (.int .i64 m)).setCell ⟨w.heap.size + 4, 0, none⟩ (.int .u64 nn)).setCell ⟨w.heap.size + 5, 0, none⟩ (.bool true)).drew = WW at *
      simp [bodyPost, results, Tryz.results25, go_sem, k3, k4, k5]
      exact ⟨HD.out.ro, upd_ksB HD.out.upd⟩

theorem ract_any {w : World} {B rb mb n : Nat} {D : DataW Value} {R : RS} (h : RoAt w B rb mb n D R) (hT : Tabs w) (s : ByteArray) (k : Int) (hs : s.size ≤ 9223372036854775807) (hn : n ≤ 1000000) (hB : B ≤ w.heap.size) (hn0 : 0 ≤ R.next) (hn1 : R.next < 18446744073709551615) (hv0 : 0 ≤ R.ver) (hv1 : R.ver < 18446744073709551615) :
    Calls Tryz.prog 25 #[.pointer (some ⟨rb, 0, none⟩), .string s, .int .i64 k] w fun e w' =>
      e = .returned (.tuple #[.int .i64 (R.actAll s k).2.1, .int .u64 (R.actAll s k).2.2.1, .bool (R.actAll s k).2.2.2.1, .int .i64 (R.actAll s k).2.2.2.2]) ∧ AnyRo w w' B rb mb (n + 1) (R.actAll s k).1 ∧ Upd w.heap.size (fun k => k = rb ∨ k = mb) w w' := by
  have C := act_tried h hT s k hs hn hB hn0 hn1
  unfold RS.actAll
  cases hr : R.act s k with
  | error c =>
    rw [hr] at C
    have hgo := ract_go (B := B) (n := n) (R := R) (R' := R) h.lt s k 0 0 false c hv0 hv1 (C.mono fun e w' ⟨a, b, c, d⟩ => ⟨a, ⟨n, D, Nat.le_succ _, b⟩, Upd.of_below c (Nat.le_refl _), d⟩)
    simpa using hgo
  | ok r =>
    rw [hr] at C
    have hv := RS.act_ver hr
    obtain ⟨R', m, nn, ch⟩ := r
    simp only at hv
    have hgo := ract_go (B := B) (n := n) (R := R) (R' := R') h.lt s k m nn ch 0 (by rw [hv]; exact hv0) (by rw [hv]; exact hv1) C
    simpa using hgo

end Go.Proofs.YthbjcihdlhkboaaGreatDoor
