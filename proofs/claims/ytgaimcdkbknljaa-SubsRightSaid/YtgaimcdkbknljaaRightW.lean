import Derived.Test.YtgaimcdkbknljaaA4
import Derived.Test.YtgaimcdkbknljaaA6
import Derived.Test.YtgaimcdkbknljaaMem
import Derived.Deep.RegionHeld3
import Derived.Deep.LoopGhost
import Derived.Deep.DeepCutAuto
import Derived.IntWalk
namespace Go.Proofs.Ytgaimcdkbknljaa
open Go.RowKit
set_option linter.unusedSimpArgs false
set_option linter.unusedVariables false

theorem sideB_iff {s n : Int} : sideB s n = true ↔ (0 ≤ s ∧ s ≤ 2) ∧ (s = 0 ↔ n = 0) := by
  unfold sideB
  constructor
  · intro h
    simp at h
    refine ⟨by omega, ?_⟩
    constructor
    · intro e; subst e; simpa using h.2
    · intro e; subst e; simpa using h.2
  · rintro ⟨h1, h2⟩
    by_cases hs : s = 0
    · have hn := h2.1 hs
      subst hs; subst hn; rfl
    · have hn : n ≠ 0 := fun e => hs (h2.2 e)
      have e1 : (s == 0) = false := by simpa using hs
      have e2 : (n == 0) = false := by simpa using hn
      rw [e1, e2]; simp; omega
theorem rightB_iff {h : Half} : rightB h = true ↔ ((0 ≤ h.o ∧ h.o ≤ 2) ∧ (h.o = 0 ↔ h.n = 0)) ∧ ((0 ≤ h.i ∧ h.i ≤ 2) ∧ (h.i = 0 ↔ h.m = 0)) := by
  unfold rightB
  rw [Bool.and_eq_true, sideB_iff, sideB_iff]

theorem act_right {h a : Half} {k n m j : Int} (hr : rightB h = true) (he : actS h k n = some (a, m, j)) : rightB a = true := by
  have h0 := rightB_iff.1 hr
  obtain ⟨o, hn, i, hm⟩ := h
  simp only at h0
  unfold actS at he
  rw [if_neg (by rw [hr]; simp)] at he
  rw [rightB_iff]
  split at he
  · split at he
    · cases he
    · split at he <;> (cases he; simp; omega)
  · split at he
    · split at he <;> (cases he; simp; omega)
    · split at he
      · split at he <;> (cases he; simp at *; omega)
      · split at he
        · split at he <;> (cases he; simp; omega)
        · cases he

theorem hear_right {h a : Half} {k n t : Int} (hr : rightB h = true) (he : hearS h k n = some (a, t)) : rightB a = true := by
  have h0 := rightB_iff.1 hr
  obtain ⟨o, hn, i, hm⟩ := h
  simp only at h0
  unfold hearS at he
  rw [if_neg (by rw [hr]; simp)] at he
  rw [rightB_iff]
  split at he
  · cases he
  split at he
  · cases he; simp; omega
  split at he
  · split at he <;> (cases he; simp; omega)
  split at he
  · split at he <;> (cases he; simp at *; omega)
  split at he
  · split at he <;> (cases he; simp; omega)
  cases he

theorem act_form {h : Half} (hr : rightB h = true) (k n : Int) : ∃ (ah : Half) (am an ae : Int), actV (actS h k n) = .tuple #[ah.val, .int .i64 am, .int .u64 an, .int .i64 ae] ∧ ((ae = 0 ∧ rightB ah = true) ∨ ae = 1) := by
  cases he : actS h k n with
  | none => exact ⟨⟨0, 0, 0, 0⟩, 0, 0, 1, rfl, .inr rfl⟩
  | some x => exact ⟨x.1, x.2.1, x.2.2, 0, rfl, .inl ⟨rfl, act_right hr he⟩⟩
theorem hear_form {h : Half} (hr : rightB h = true) (k n : Int) : ∃ (ah : Half) (am ae : Int), hearV (hearS h k n) = .tuple #[ah.val, .int .i64 am, .int .i64 ae] ∧ ((ae = 0 ∧ rightB ah = true) ∨ ae = 1) := by
  cases he : hearS h k n with
  | none => exact ⟨⟨0, 0, 0, 0⟩, 0, 1, rfl, .inr rfl⟩
  | some x => exact ⟨x.1, x.2, 0, rfl, .inl ⟨rfl, hear_right hr he⟩⟩
theorem size_alloc (w : World) (o : Obj) : (w.alloc o).heap.size = w.heap.size + 1 := by simp
theorem below_undrew {W W' : World} (h : Below W.drew.heap.size W.drew W') : Below W.heap.size W W' := ⟨h.os, h.tape, h.output, h.size, h.block⟩
theorem blk_set4 {w : World} {b : Nat} {T : TypeId} {x0 x1 x2 x3 : Value} (h : w.heap[b]? = some (.cells #[x0, x1, x2, x3] T)) (y0 y1 y2 y3 : Value) :
    ((((w.setCell ⟨b, 0, none⟩ y0).setCell ⟨b, 1, none⟩ y1).setCell ⟨b, 2, none⟩ y2).setCell ⟨b, 3, none⟩ y3).heap[b]? = some (.cells #[y0, y1, y2, y3] T) :=
  blk_set_same (blk_set_same (blk_set_same (blk_set_same h 0 y0) 1 y1) 2 y2) 3 y3

/-- The steps as they lie in memory: each of seven cells. -/
structure Events (w : World) (A : Option Addr) (L : Nat) (K M Nn : Nat → Int) : Prop where
  at_ : 0 < L → ∃ ab ao, A = some ⟨ab, ao, none⟩ ∧ ab < w.heap.size ∧ ∀ i, i < L → w.cell? ⟨ab, ao + i * 7 + 4, none⟩ = some (.int .i64 (K i)) ∧ w.cell? ⟨ab, ao + i * 7 + 5, none⟩ = some (.int .i64 (M i)) ∧ w.cell? ⟨ab, ao + i * 7 + 6, none⟩ = some (.int .u64 (Nn i))

set_option maxRecDepth 100000 in
set_option maxHeartbeats 16000000 in
theorem right_law (A : Option Addr) (L cap : Nat) (K M Nn : Nat → Int) (w : World) (hst : Events w A L K M Nn) (hL : L ≤ 9223372036854775807) :
    Calls Try.prog 6 #[.slice A L cap] w fun e w' => e = .returned (.bool true) ∧ Below w.heap.size w w' := by
  have HST := Lib.hid hst
  clear hst
  go_enter Try.func6, Try.ntmps6
  go_wp2_with fail
  go_loopg [4, 5] 200 (fun g s4 s5 wx => ∃ (k : Nat) (h : Half), k ≤ 200 ∧ g = 200 - k ∧ s4 = .int .u64 k ∧ s5 = .int .i64 k ∧ rightB h = true ∧ Below w.heap.size w wx ∧ wx.heap[w.heap.size]? = some (.cells #[.int .i64 h.o, .int .u64 h.n, .int .i64 h.i, .int .u64 h.m] 25))
  case atStart => exact ⟨0, ⟨0, 0, 0, 0⟩, by omega, rfl, rfl, rfl, rfl, Below.alloc (Below.refl _ _) (Nat.le_refl _) _, blk_new _ _⟩
  case round =>
    obtain ⟨k, h, hk, hgk, rfl, rfl, hr, hbw, BH⟩ := hrel
    have z0 := blk_lt BH
    have hki : (0 : Int) ≤ (k : Int) := by omega
    have hk200 : (k : Int) ≤ 200 := by omega
    have HGK := Lib.hid hgk
    have HR := Lib.hid hr
    have HB := Lib.hid hbw
    have HBH := Lib.hid BH
    clear hgk hr hbw BH
    by_cases hact : k < L ∧ k < 200
    · obtain ⟨hkL, hk2⟩ := hact
      have t1 : decide (k < L) = true := by simpa using hkL
      have t2 : decide ((k : Int) < 200) = true := by simp; omega
      have hkL' : (k : Int) < (L : Int) := by omega
      obtain ⟨ab, ao, rfl, hab, hsteps⟩ := HST.out.at_ (by omega)
      have s4 : wr.cell? ⟨ab, ao + k * 7 + 4, none⟩ = some (.int .i64 (K k)) := (HB.out.cell hab).trans (hsteps k hkL).1
      have s5 : wr.cell? ⟨ab, ao + k * 7 + 5, none⟩ = some (.int .i64 (M k)) := (HB.out.cell hab).trans (hsteps k hkL).2.1
      have s6 : wr.cell? ⟨ab, ao + k * 7 + 6, none⟩ = some (.int .u64 (Nn k)) := (HB.out.cell hab).trans (hsteps k hkL).2.2
      have zab : ab < wr.heap.size := by have := HB.out.size; omega
      have zne : ab ≠ w.heap.size := by omega
      clear hsteps
      generalize K k = kk at *
      generalize M k = mk at *
      generalize Nn k = nk at *
      have h0 : wr.cell? ⟨w.heap.size, 0, none⟩ = some (.int .i64 h.o) := blk_cell HBH.out 0
      have h1 : wr.cell? ⟨w.heap.size, 1, none⟩ = some (.int .u64 h.n) := blk_cell HBH.out 1
      have h2 : wr.cell? ⟨w.heap.size, 2, none⟩ = some (.int .i64 h.i) := blk_cell HBH.out 2
      have h3 : wr.cell? ⟨w.heap.size, 3, none⟩ = some (.int .u64 h.m) := blk_cell HBH.out 3
      obtain ⟨ev, hev⟩ : ∃ ev : Bool, (bits .and .u64 nk 1 == 0) = ev := ⟨_, rfl⟩
      go_upto_if 33 with fail
      go_cut [34] (fun s34 wx => ∃ h' : Half, rightB h' = true ∧ Below w.heap.size w wx ∧ wx.heap[w.heap.size]? = some (.cells #[.int .i64 h'.o, .int .u64 h'.n, .int .i64 h'.i, .int .u64 h'.m] 25))
      case first =>
        cases ev with
        | true =>
          obtain ⟨ah, am, an, ae, ea, hae⟩ := act_form HR.out kk ((k : Int) + 1)
          have hcall := Lib.hid (fun w => (show Calls Try.prog 7 #[h.val, .int .i64 kk, .int .u64 ((k : Int) + 1)] w fun e w' => e = .returned (.tuple #[ah.val, .int .i64 am, .int .u64 an, .int .i64 ae]) ∧ Below w.heap.size w w' from by have := act_any h kk ((k : Int) + 1) w; rw [ea] at this; exact this))
          clear ea
          rcases hae with ⟨rfl, hra⟩ | rfl
          · as_aux_lemma =>
            go_wp2_with fail
            go_cut [6, 7, 8, 9] (fun s6 s7 s8 s9 wx => ∃ g, s6 = .pointer (some ⟨g, 0, none⟩) ∧ s7 = .int .i64 am ∧ s8 = .int .u64 an ∧ s9 = .int .i64 0 ∧ Below w.heap.size w wx ∧ wx.heap[w.heap.size]? = some (.cells #[.int .i64 h.o, .int .u64 h.n, .int .i64 h.i, .int .u64 h.m] 25) ∧ wx.heap[g]? = some (.cells #[.int .i64 ah.o, .int .u64 ah.n, .int .i64 ah.i, .int .u64 ah.m] 25) ∧ w.heap.size < g)
            case first =>
              go_region_held3 (fun w' => w'.cell? ⟨w.heap.size, 0, none⟩ = some (.int .i64 h.o) ∧ w'.cell? ⟨w.heap.size, 1, none⟩ = some (.int .u64 h.n) ∧ w'.cell? ⟨w.heap.size, 2, none⟩ = some (.int .i64 h.i) ∧ w'.cell? ⟨w.heap.size, 3, none⟩ = some (.int .u64 h.m) ∧ w'.cell? ⟨ab, ao + k * 7 + 4, none⟩ = some (.int .i64 kk))
                (first
                  | exact ⟨h0, h1, h2, h3, s4⟩
                  | (refine ⟨?_, ?_, ?_, ?_, ?_⟩ <;> (refine (Below.cell (B := wr.heap.size) (w := wr) (by repeat (first | exact hbW | exact Below.refl _ _ | refine Below.drew ?_ | refine Below.setCell ?_ (by first | exact hbc.size | (simp; done) | (simp; exact hbc.size)) _ | refine Below.alloc ?_ (by first | exact hbc.size | (simp; done) | (simp; exact hbc.size)) _)) (by first | (simp; done) | (simp; omega))).trans ?_; assumption)))
                (first
                  | (go_at_call 7; refine (hcall.out _).mono ?_; rintro e w' ⟨rfl, hbc⟩; replace hbc := below_undrew hbc; first | have hbW : Below wr.heap.size wr w' := hbc | (have hbW : Below wr.heap.size wr w' := (Below.alloc (Below.refl _ _) (Nat.le_refl _) _).trans (hbc.mono (by simp)); have hx0 : w'.cell? ⟨wr.heap.size, 0, none⟩ = some (.int .i64 0) := (blk_cell (blk_below (blk_new wr _) hbc (by simp)) 0).trans rfl; have hf0 : w'.frozen? ⟨wr.heap.size, 0, none⟩ = false := blk_frozen (blk_below (blk_new wr _) hbc (by simp)) 0; have hx1 : w'.cell? ⟨wr.heap.size, 1, none⟩ = some (.int .u64 0) := (blk_cell (blk_below (blk_new wr _) hbc (by simp)) 1).trans rfl; have hf1 : w'.frozen? ⟨wr.heap.size, 1, none⟩ = false := blk_frozen (blk_below (blk_new wr _) hbc (by simp)) 1; have hx2 : w'.cell? ⟨wr.heap.size, 2, none⟩ = some (.int .i64 0) := (blk_cell (blk_below (blk_new wr _) hbc (by simp)) 2).trans rfl; have hf2 : w'.frozen? ⟨wr.heap.size, 2, none⟩ = false := blk_frozen (blk_below (blk_new wr _) hbc (by simp)) 2; have hx3 : w'.cell? ⟨wr.heap.size, 3, none⟩ = some (.int .u64 0) := (blk_cell (blk_below (blk_new wr _) hbc (by simp)) 3).trans rfl; have hf3 : w'.frozen? ⟨wr.heap.size, 3, none⟩ = false := blk_frozen (blk_below (blk_new wr _) hbc (by simp)) 3; have zX : wr.heap.size < w'.heap.size := by have := hbc.size; simp at this; omega)))
              all_goals
                go_wp2_with fail
                go_meet
                have hbs := hbW.size
                have hbB := HB.out.trans (hbW.mono (Nat.le_of_lt z0))
                have hBB := blk_below HBH.out hbW z0
                have zN : w.heap.size ≠ wr.heap.size := by omega
                have zL : w.heap.size ≤ wr.heap.size := by omega
                first
                  | refine ⟨w'.heap.size, rfl, rfl, rfl, rfl, hbB.alloc (Nat.le_trans zL hbs) _, blk_alloc hBB _, blk_new _ _, ?_⟩
                  | refine ⟨wr.heap.size, rfl, rfl, rfl, rfl, Below.setCell (Below.setCell (Below.setCell (Below.setCell hbB zL _) zL _) zL _) zL _, blk_set_other (blk_set_other (blk_set_other (blk_set_other (hBB) _ zN) _ zN) _ zN) _ zN, blk_set_same (blk_set_same (blk_set_same (blk_set_same (blk_below (blk_new wr _) hbc (Nat.lt_of_lt_of_eq (Nat.lt_succ_self _) (size_alloc wr _).symm)) 0 _) 1 _) 2 _) 3 _, ?_⟩
                omega
            case rest =>
              obtain ⟨g, rfl, rfl, rfl, rfl, hbc, BHc, BG, zg⟩ := hcut
              clear h0 h1 h2 h3 hcall
              have z1 := blk_lt BHc
              have z2 := blk_lt BG
              have zne1 : g ≠ w.heap.size := by omega
              have x0 : wc.cell? ⟨w.heap.size, 0, none⟩ = some (.int .i64 h.o) := blk_cell BHc 0
              have xf0 : wc.frozen? ⟨w.heap.size, 0, none⟩ = false := blk_frozen BHc 0
              have y0 : wc.cell? ⟨g, 0, none⟩ = some (.int .i64 ah.o) := blk_cell BG 0
              have x1 : wc.cell? ⟨w.heap.size, 1, none⟩ = some (.int .u64 h.n) := blk_cell BHc 1
              have xf1 : wc.frozen? ⟨w.heap.size, 1, none⟩ = false := blk_frozen BHc 1
              have y1 : wc.cell? ⟨g, 1, none⟩ = some (.int .u64 ah.n) := blk_cell BG 1
              have x2 : wc.cell? ⟨w.heap.size, 2, none⟩ = some (.int .i64 h.i) := blk_cell BHc 2
              have xf2 : wc.frozen? ⟨w.heap.size, 2, none⟩ = false := blk_frozen BHc 2
              have y2 : wc.cell? ⟨g, 2, none⟩ = some (.int .i64 ah.i) := blk_cell BG 2
              have x3 : wc.cell? ⟨w.heap.size, 3, none⟩ = some (.int .u64 h.m) := blk_cell BHc 3
              have xf3 : wc.frozen? ⟨w.heap.size, 3, none⟩ = false := blk_frozen BHc 3
              have y3 : wc.cell? ⟨g, 3, none⟩ = some (.int .u64 ah.m) := blk_cell BG 3
              have HW := Lib.hid (And.intro hbc (And.intro BHc BG))
              clear hbc BHc BG
              go_wp2_with fail
              go_meet
              exact ⟨ah, hra, Below.setCell (Below.setCell (Below.setCell (Below.setCell HW.out.1 (Nat.le_refl _) _) (Nat.le_refl _) _) (Nat.le_refl _) _) (Nat.le_refl _) _, blk_set4 HW.out.2.1 _ _ _ _⟩
          · as_aux_lemma =>
            go_wp2_with fail
            go_cut [6, 7, 8, 9] (fun s6 s7 s8 s9 wx => ∃ g, s6 = .pointer (some ⟨g, 0, none⟩) ∧ s7 = .int .i64 am ∧ s8 = .int .u64 an ∧ s9 = .int .i64 1 ∧ Below w.heap.size w wx ∧ wx.heap[w.heap.size]? = some (.cells #[.int .i64 h.o, .int .u64 h.n, .int .i64 h.i, .int .u64 h.m] 25) ∧ wx.heap[g]? = some (.cells #[.int .i64 ah.o, .int .u64 ah.n, .int .i64 ah.i, .int .u64 ah.m] 25) ∧ w.heap.size < g)
            case first =>
              go_region_held3 (fun w' => w'.cell? ⟨w.heap.size, 0, none⟩ = some (.int .i64 h.o) ∧ w'.cell? ⟨w.heap.size, 1, none⟩ = some (.int .u64 h.n) ∧ w'.cell? ⟨w.heap.size, 2, none⟩ = some (.int .i64 h.i) ∧ w'.cell? ⟨w.heap.size, 3, none⟩ = some (.int .u64 h.m) ∧ w'.cell? ⟨ab, ao + k * 7 + 4, none⟩ = some (.int .i64 kk))
                (first
                  | exact ⟨h0, h1, h2, h3, s4⟩
                  | (refine ⟨?_, ?_, ?_, ?_, ?_⟩ <;> (refine (Below.cell (B := wr.heap.size) (w := wr) (by repeat (first | exact hbW | exact Below.refl _ _ | refine Below.drew ?_ | refine Below.setCell ?_ (by first | exact hbc.size | (simp; done) | (simp; exact hbc.size)) _ | refine Below.alloc ?_ (by first | exact hbc.size | (simp; done) | (simp; exact hbc.size)) _)) (by first | (simp; done) | (simp; omega))).trans ?_; assumption)))
                (first
                  | (go_at_call 7; refine (hcall.out _).mono ?_; rintro e w' ⟨rfl, hbc⟩; replace hbc := below_undrew hbc; first | have hbW : Below wr.heap.size wr w' := hbc | (have hbW : Below wr.heap.size wr w' := (Below.alloc (Below.refl _ _) (Nat.le_refl _) _).trans (hbc.mono (by simp)); have hx0 : w'.cell? ⟨wr.heap.size, 0, none⟩ = some (.int .i64 0) := (blk_cell (blk_below (blk_new wr _) hbc (by simp)) 0).trans rfl; have hf0 : w'.frozen? ⟨wr.heap.size, 0, none⟩ = false := blk_frozen (blk_below (blk_new wr _) hbc (by simp)) 0; have hx1 : w'.cell? ⟨wr.heap.size, 1, none⟩ = some (.int .u64 0) := (blk_cell (blk_below (blk_new wr _) hbc (by simp)) 1).trans rfl; have hf1 : w'.frozen? ⟨wr.heap.size, 1, none⟩ = false := blk_frozen (blk_below (blk_new wr _) hbc (by simp)) 1; have hx2 : w'.cell? ⟨wr.heap.size, 2, none⟩ = some (.int .i64 0) := (blk_cell (blk_below (blk_new wr _) hbc (by simp)) 2).trans rfl; have hf2 : w'.frozen? ⟨wr.heap.size, 2, none⟩ = false := blk_frozen (blk_below (blk_new wr _) hbc (by simp)) 2; have hx3 : w'.cell? ⟨wr.heap.size, 3, none⟩ = some (.int .u64 0) := (blk_cell (blk_below (blk_new wr _) hbc (by simp)) 3).trans rfl; have hf3 : w'.frozen? ⟨wr.heap.size, 3, none⟩ = false := blk_frozen (blk_below (blk_new wr _) hbc (by simp)) 3; have zX : wr.heap.size < w'.heap.size := by have := hbc.size; simp at this; omega)))
              all_goals
                go_wp2_with fail
                go_meet
                have hbs := hbW.size
                have hbB := HB.out.trans (hbW.mono (Nat.le_of_lt z0))
                have hBB := blk_below HBH.out hbW z0
                have zN : w.heap.size ≠ wr.heap.size := by omega
                have zL : w.heap.size ≤ wr.heap.size := by omega
                first
                  | refine ⟨w'.heap.size, rfl, rfl, rfl, rfl, hbB.alloc (Nat.le_trans zL hbs) _, blk_alloc hBB _, blk_new _ _, ?_⟩
                  | refine ⟨wr.heap.size, rfl, rfl, rfl, rfl, Below.setCell (Below.setCell (Below.setCell (Below.setCell hbB zL _) zL _) zL _) zL _, blk_set_other (blk_set_other (blk_set_other (blk_set_other (hBB) _ zN) _ zN) _ zN) _ zN, blk_set_same (blk_set_same (blk_set_same (blk_set_same (blk_below (blk_new wr _) hbc (Nat.lt_of_lt_of_eq (Nat.lt_succ_self _) (size_alloc wr _).symm)) 0 _) 1 _) 2 _) 3 _, ?_⟩
                omega
            case rest =>
              obtain ⟨g, rfl, rfl, rfl, rfl, hbc, BHc, BG, zg⟩ := hcut
              clear h0 h1 h2 h3 hcall
              have z1 := blk_lt BHc
              have z2 := blk_lt BG
              have zne1 : g ≠ w.heap.size := by omega
              have x0 : wc.cell? ⟨w.heap.size, 0, none⟩ = some (.int .i64 h.o) := blk_cell BHc 0
              have xf0 : wc.frozen? ⟨w.heap.size, 0, none⟩ = false := blk_frozen BHc 0
              have y0 : wc.cell? ⟨g, 0, none⟩ = some (.int .i64 ah.o) := blk_cell BG 0
              have x1 : wc.cell? ⟨w.heap.size, 1, none⟩ = some (.int .u64 h.n) := blk_cell BHc 1
              have xf1 : wc.frozen? ⟨w.heap.size, 1, none⟩ = false := blk_frozen BHc 1
              have y1 : wc.cell? ⟨g, 1, none⟩ = some (.int .u64 ah.n) := blk_cell BG 1
              have x2 : wc.cell? ⟨w.heap.size, 2, none⟩ = some (.int .i64 h.i) := blk_cell BHc 2
              have xf2 : wc.frozen? ⟨w.heap.size, 2, none⟩ = false := blk_frozen BHc 2
              have y2 : wc.cell? ⟨g, 2, none⟩ = some (.int .i64 ah.i) := blk_cell BG 2
              have x3 : wc.cell? ⟨w.heap.size, 3, none⟩ = some (.int .u64 h.m) := blk_cell BHc 3
              have xf3 : wc.frozen? ⟨w.heap.size, 3, none⟩ = false := blk_frozen BHc 3
              have y3 : wc.cell? ⟨g, 3, none⟩ = some (.int .u64 ah.m) := blk_cell BG 3
              have HW := Lib.hid (And.intro hbc (And.intro BHc BG))
              clear hbc BHc BG
              go_wp2_with fail
              go_meet
              exact ⟨h, HR.out, HW.out.1, HW.out.2.1⟩
        | false =>
          obtain ⟨ah, am, ae, ea, hae⟩ := hear_form HR.out mk nk
          have hcall := Lib.hid (fun w => (show Calls Try.prog 8 #[h.val, .int .i64 mk, .int .u64 nk] w fun e w' => e = .returned (.tuple #[ah.val, .int .i64 am, .int .i64 ae]) ∧ Below w.heap.size w w' from by have := hear_any h mk nk w; rw [ea] at this; exact this))
          clear ea
          rcases hae with ⟨rfl, hra⟩ | rfl
          · as_aux_lemma =>
            go_wp2_with fail
            go_cut [10, 11, 12] (fun s10 s11 s12 wx => ∃ g, s10 = .pointer (some ⟨g, 0, none⟩) ∧ s11 = .int .i64 am ∧ s12 = .int .i64 0 ∧ Below w.heap.size w wx ∧ wx.heap[w.heap.size]? = some (.cells #[.int .i64 h.o, .int .u64 h.n, .int .i64 h.i, .int .u64 h.m] 25) ∧ wx.heap[g]? = some (.cells #[.int .i64 ah.o, .int .u64 ah.n, .int .i64 ah.i, .int .u64 ah.m] 25) ∧ w.heap.size < g)
            case first =>
              go_region_held3 (fun w' => w'.cell? ⟨w.heap.size, 0, none⟩ = some (.int .i64 h.o) ∧ w'.cell? ⟨w.heap.size, 1, none⟩ = some (.int .u64 h.n) ∧ w'.cell? ⟨w.heap.size, 2, none⟩ = some (.int .i64 h.i) ∧ w'.cell? ⟨w.heap.size, 3, none⟩ = some (.int .u64 h.m) ∧ w'.cell? ⟨ab, ao + k * 7 + 5, none⟩ = some (.int .i64 mk) ∧ w'.cell? ⟨ab, ao + k * 7 + 6, none⟩ = some (.int .u64 nk))
                (first
                  | exact ⟨h0, h1, h2, h3, s5, s6⟩
                  | (refine ⟨?_, ?_, ?_, ?_, ?_, ?_⟩ <;> (refine (Below.cell (B := wr.heap.size) (w := wr) (by repeat (first | exact hbW | exact Below.refl _ _ | refine Below.drew ?_ | refine Below.setCell ?_ (by first | exact hbc.size | (simp; done) | (simp; exact hbc.size)) _ | refine Below.alloc ?_ (by first | exact hbc.size | (simp; done) | (simp; exact hbc.size)) _)) (by first | (simp; done) | (simp; omega))).trans ?_; assumption)))
                (first
                  | (go_at_call 8; refine (hcall.out _).mono ?_; rintro e w' ⟨rfl, hbc⟩; replace hbc := below_undrew hbc; first | have hbW : Below wr.heap.size wr w' := hbc | (have hbW : Below wr.heap.size wr w' := (Below.alloc (Below.refl _ _) (Nat.le_refl _) _).trans (hbc.mono (by simp)); have hx0 : w'.cell? ⟨wr.heap.size, 0, none⟩ = some (.int .i64 0) := (blk_cell (blk_below (blk_new wr _) hbc (by simp)) 0).trans rfl; have hf0 : w'.frozen? ⟨wr.heap.size, 0, none⟩ = false := blk_frozen (blk_below (blk_new wr _) hbc (by simp)) 0; have hx1 : w'.cell? ⟨wr.heap.size, 1, none⟩ = some (.int .u64 0) := (blk_cell (blk_below (blk_new wr _) hbc (by simp)) 1).trans rfl; have hf1 : w'.frozen? ⟨wr.heap.size, 1, none⟩ = false := blk_frozen (blk_below (blk_new wr _) hbc (by simp)) 1; have hx2 : w'.cell? ⟨wr.heap.size, 2, none⟩ = some (.int .i64 0) := (blk_cell (blk_below (blk_new wr _) hbc (by simp)) 2).trans rfl; have hf2 : w'.frozen? ⟨wr.heap.size, 2, none⟩ = false := blk_frozen (blk_below (blk_new wr _) hbc (by simp)) 2; have hx3 : w'.cell? ⟨wr.heap.size, 3, none⟩ = some (.int .u64 0) := (blk_cell (blk_below (blk_new wr _) hbc (by simp)) 3).trans rfl; have hf3 : w'.frozen? ⟨wr.heap.size, 3, none⟩ = false := blk_frozen (blk_below (blk_new wr _) hbc (by simp)) 3; have zX : wr.heap.size < w'.heap.size := by have := hbc.size; simp at this; omega)))
              all_goals
                go_wp2_with fail
                go_meet
                have hbs := hbW.size
                have hbB := HB.out.trans (hbW.mono (Nat.le_of_lt z0))
                have hBB := blk_below HBH.out hbW z0
                have zN : w.heap.size ≠ wr.heap.size := by omega
                have zL : w.heap.size ≤ wr.heap.size := by omega
                first
                  | refine ⟨w'.heap.size, rfl, rfl, rfl, hbB.alloc (Nat.le_trans zL hbs) _, blk_alloc hBB _, blk_new _ _, ?_⟩
                  | refine ⟨wr.heap.size, rfl, rfl, rfl, Below.setCell (Below.setCell (Below.setCell (Below.setCell hbB zL _) zL _) zL _) zL _, blk_set_other (blk_set_other (blk_set_other (blk_set_other (hBB) _ zN) _ zN) _ zN) _ zN, blk_set_same (blk_set_same (blk_set_same (blk_set_same (blk_below (blk_new wr _) hbc (Nat.lt_of_lt_of_eq (Nat.lt_succ_self _) (size_alloc wr _).symm)) 0 _) 1 _) 2 _) 3 _, ?_⟩
                omega
            case rest =>
              obtain ⟨g, rfl, rfl, rfl, hbc, BHc, BG, zg⟩ := hcut
              clear h0 h1 h2 h3 hcall
              have z1 := blk_lt BHc
              have z2 := blk_lt BG
              have zne1 : g ≠ w.heap.size := by omega
              have x0 : wc.cell? ⟨w.heap.size, 0, none⟩ = some (.int .i64 h.o) := blk_cell BHc 0
              have xf0 : wc.frozen? ⟨w.heap.size, 0, none⟩ = false := blk_frozen BHc 0
              have y0 : wc.cell? ⟨g, 0, none⟩ = some (.int .i64 ah.o) := blk_cell BG 0
              have x1 : wc.cell? ⟨w.heap.size, 1, none⟩ = some (.int .u64 h.n) := blk_cell BHc 1
              have xf1 : wc.frozen? ⟨w.heap.size, 1, none⟩ = false := blk_frozen BHc 1
              have y1 : wc.cell? ⟨g, 1, none⟩ = some (.int .u64 ah.n) := blk_cell BG 1
              have x2 : wc.cell? ⟨w.heap.size, 2, none⟩ = some (.int .i64 h.i) := blk_cell BHc 2
              have xf2 : wc.frozen? ⟨w.heap.size, 2, none⟩ = false := blk_frozen BHc 2
              have y2 : wc.cell? ⟨g, 2, none⟩ = some (.int .i64 ah.i) := blk_cell BG 2
              have x3 : wc.cell? ⟨w.heap.size, 3, none⟩ = some (.int .u64 h.m) := blk_cell BHc 3
              have xf3 : wc.frozen? ⟨w.heap.size, 3, none⟩ = false := blk_frozen BHc 3
              have y3 : wc.cell? ⟨g, 3, none⟩ = some (.int .u64 ah.m) := blk_cell BG 3
              have HW := Lib.hid (And.intro hbc (And.intro BHc BG))
              clear hbc BHc BG
              go_wp2_with fail
              go_meet
              exact ⟨ah, hra, Below.setCell (Below.setCell (Below.setCell (Below.setCell HW.out.1 (Nat.le_refl _) _) (Nat.le_refl _) _) (Nat.le_refl _) _) (Nat.le_refl _) _, blk_set4 HW.out.2.1 _ _ _ _⟩
          · as_aux_lemma =>
            go_wp2_with fail
            go_cut [10, 11, 12] (fun s10 s11 s12 wx => ∃ g, s10 = .pointer (some ⟨g, 0, none⟩) ∧ s11 = .int .i64 am ∧ s12 = .int .i64 1 ∧ Below w.heap.size w wx ∧ wx.heap[w.heap.size]? = some (.cells #[.int .i64 h.o, .int .u64 h.n, .int .i64 h.i, .int .u64 h.m] 25) ∧ wx.heap[g]? = some (.cells #[.int .i64 ah.o, .int .u64 ah.n, .int .i64 ah.i, .int .u64 ah.m] 25) ∧ w.heap.size < g)
            case first =>
              go_region_held3 (fun w' => w'.cell? ⟨w.heap.size, 0, none⟩ = some (.int .i64 h.o) ∧ w'.cell? ⟨w.heap.size, 1, none⟩ = some (.int .u64 h.n) ∧ w'.cell? ⟨w.heap.size, 2, none⟩ = some (.int .i64 h.i) ∧ w'.cell? ⟨w.heap.size, 3, none⟩ = some (.int .u64 h.m) ∧ w'.cell? ⟨ab, ao + k * 7 + 5, none⟩ = some (.int .i64 mk) ∧ w'.cell? ⟨ab, ao + k * 7 + 6, none⟩ = some (.int .u64 nk))
                (first
                  | exact ⟨h0, h1, h2, h3, s5, s6⟩
                  | (refine ⟨?_, ?_, ?_, ?_, ?_, ?_⟩ <;> (refine (Below.cell (B := wr.heap.size) (w := wr) (by repeat (first | exact hbW | exact Below.refl _ _ | refine Below.drew ?_ | refine Below.setCell ?_ (by first | exact hbc.size | (simp; done) | (simp; exact hbc.size)) _ | refine Below.alloc ?_ (by first | exact hbc.size | (simp; done) | (simp; exact hbc.size)) _)) (by first | (simp; done) | (simp; omega))).trans ?_; assumption)))
                (first
                  | (go_at_call 8; refine (hcall.out _).mono ?_; rintro e w' ⟨rfl, hbc⟩; replace hbc := below_undrew hbc; first | have hbW : Below wr.heap.size wr w' := hbc | (have hbW : Below wr.heap.size wr w' := (Below.alloc (Below.refl _ _) (Nat.le_refl _) _).trans (hbc.mono (by simp)); have hx0 : w'.cell? ⟨wr.heap.size, 0, none⟩ = some (.int .i64 0) := (blk_cell (blk_below (blk_new wr _) hbc (by simp)) 0).trans rfl; have hf0 : w'.frozen? ⟨wr.heap.size, 0, none⟩ = false := blk_frozen (blk_below (blk_new wr _) hbc (by simp)) 0; have hx1 : w'.cell? ⟨wr.heap.size, 1, none⟩ = some (.int .u64 0) := (blk_cell (blk_below (blk_new wr _) hbc (by simp)) 1).trans rfl; have hf1 : w'.frozen? ⟨wr.heap.size, 1, none⟩ = false := blk_frozen (blk_below (blk_new wr _) hbc (by simp)) 1; have hx2 : w'.cell? ⟨wr.heap.size, 2, none⟩ = some (.int .i64 0) := (blk_cell (blk_below (blk_new wr _) hbc (by simp)) 2).trans rfl; have hf2 : w'.frozen? ⟨wr.heap.size, 2, none⟩ = false := blk_frozen (blk_below (blk_new wr _) hbc (by simp)) 2; have hx3 : w'.cell? ⟨wr.heap.size, 3, none⟩ = some (.int .u64 0) := (blk_cell (blk_below (blk_new wr _) hbc (by simp)) 3).trans rfl; have hf3 : w'.frozen? ⟨wr.heap.size, 3, none⟩ = false := blk_frozen (blk_below (blk_new wr _) hbc (by simp)) 3; have zX : wr.heap.size < w'.heap.size := by have := hbc.size; simp at this; omega)))
              all_goals
                go_wp2_with fail
                go_meet
                have hbs := hbW.size
                have hbB := HB.out.trans (hbW.mono (Nat.le_of_lt z0))
                have hBB := blk_below HBH.out hbW z0
                have zN : w.heap.size ≠ wr.heap.size := by omega
                have zL : w.heap.size ≤ wr.heap.size := by omega
                first
                  | refine ⟨w'.heap.size, rfl, rfl, rfl, hbB.alloc (Nat.le_trans zL hbs) _, blk_alloc hBB _, blk_new _ _, ?_⟩
                  | refine ⟨wr.heap.size, rfl, rfl, rfl, Below.setCell (Below.setCell (Below.setCell (Below.setCell hbB zL _) zL _) zL _) zL _, blk_set_other (blk_set_other (blk_set_other (blk_set_other (hBB) _ zN) _ zN) _ zN) _ zN, blk_set_same (blk_set_same (blk_set_same (blk_set_same (blk_below (blk_new wr _) hbc (Nat.lt_of_lt_of_eq (Nat.lt_succ_self _) (size_alloc wr _).symm)) 0 _) 1 _) 2 _) 3 _, ?_⟩
                omega
            case rest =>
              obtain ⟨g, rfl, rfl, rfl, hbc, BHc, BG, zg⟩ := hcut
              clear h0 h1 h2 h3 hcall
              have z1 := blk_lt BHc
              have z2 := blk_lt BG
              have zne1 : g ≠ w.heap.size := by omega
              have x0 : wc.cell? ⟨w.heap.size, 0, none⟩ = some (.int .i64 h.o) := blk_cell BHc 0
              have xf0 : wc.frozen? ⟨w.heap.size, 0, none⟩ = false := blk_frozen BHc 0
              have y0 : wc.cell? ⟨g, 0, none⟩ = some (.int .i64 ah.o) := blk_cell BG 0
              have x1 : wc.cell? ⟨w.heap.size, 1, none⟩ = some (.int .u64 h.n) := blk_cell BHc 1
              have xf1 : wc.frozen? ⟨w.heap.size, 1, none⟩ = false := blk_frozen BHc 1
              have y1 : wc.cell? ⟨g, 1, none⟩ = some (.int .u64 ah.n) := blk_cell BG 1
              have x2 : wc.cell? ⟨w.heap.size, 2, none⟩ = some (.int .i64 h.i) := blk_cell BHc 2
              have xf2 : wc.frozen? ⟨w.heap.size, 2, none⟩ = false := blk_frozen BHc 2
              have y2 : wc.cell? ⟨g, 2, none⟩ = some (.int .i64 ah.i) := blk_cell BG 2
              have x3 : wc.cell? ⟨w.heap.size, 3, none⟩ = some (.int .u64 h.m) := blk_cell BHc 3
              have xf3 : wc.frozen? ⟨w.heap.size, 3, none⟩ = false := blk_frozen BHc 3
              have y3 : wc.cell? ⟨g, 3, none⟩ = some (.int .u64 ah.m) := blk_cell BG 3
              have HW := Lib.hid (And.intro hbc (And.intro BHc BG))
              clear hbc BHc BG
              go_wp2_with fail
              go_meet
              exact ⟨h, HR.out, HW.out.1, HW.out.2.1⟩
      case rest =>
        obtain ⟨h', hr', hb', BH'⟩ := hcut
        clear hev h0 h1 h2 h3 s4 s5 s6 zab zne z0
        obtain ⟨o, n, i, m⟩ := h'
        have hri := rightB_iff.1 hr'
        simp only at hri
        have ho : o = 0 ∨ o = 1 ∨ o = 2 := by omega
        have hi : i = 0 ∨ i = 1 ∨ i = 2 := by omega
        have hrr : (sideB o n && sideB i m) = true := hr'
        have z0 := blk_lt BH'
        have HRI := Lib.hid hri
        clear hri hr'
        rcases ho with rfl | rfl | rfl <;> rcases hi with rfl | rfl | rfl
        · as_aux_lemma =>
          obtain rfl : n = 0 := HRI.out.1.2.1 rfl
          obtain rfl : m = 0 := HRI.out.2.2.1 rfl
          have x0 : wc.cell? ⟨w.heap.size, 0, none⟩ = some (.int .i64 0) := blk_cell BH' 0
          have x1 : wc.cell? ⟨w.heap.size, 1, none⟩ = some (.int .u64 0) := blk_cell BH' 1
          have x2 : wc.cell? ⟨w.heap.size, 2, none⟩ = some (.int .i64 0) := blk_cell BH' 2
          have x3 : wc.cell? ⟨w.heap.size, 3, none⟩ = some (.int .u64 0) := blk_cell BH' 3
          have HC := Lib.hid (And.intro hrr (And.intro hb' BH'))
          clear hrr hb' BH'
          go_wp2_with fail
          refine (state_00 0 0 HC.out.1 _).mono ?_
          rintro e w3 ⟨rfl, hb3⟩
          clear x0 x1 x2 x3
          have BH3 := blk_below HC.out.2.2 hb3 (blk_lt HC.out.2.2)
          have z3 := blk_lt BH3
          have x0 : w3.cell? ⟨w.heap.size, 0, none⟩ = some (.int .i64 0) := blk_cell BH3 0
          have x1 : w3.cell? ⟨w.heap.size, 1, none⟩ = some (.int .u64 0) := blk_cell BH3 1
          have x2 : w3.cell? ⟨w.heap.size, 2, none⟩ = some (.int .i64 0) := blk_cell BH3 2
          have x3 : w3.cell? ⟨w.heap.size, 3, none⟩ = some (.int .u64 0) := blk_cell BH3 3
          have HC3 := Lib.hid (And.intro hb3 BH3)
          clear hb3 BH3
          go_wp2_with fail
          refine (sub_00 0 0 HC.out.1 _).mono ?_
          rintro e w4 ⟨rfl, hb4⟩
          clear x0 x1 x2 x3
          have BH4 := blk_below HC3.out.2 hb4 (blk_lt HC3.out.2)
          have hb5 : Below w.heap.size w w4 := (HC.out.2.1.trans (HC3.out.1.mono (by omega))).trans (hb4.mono (by omega))
          have HC4 := Lib.hid (And.intro hb5 BH4)
          clear hb4 hb5 BH4
          go_wp2_with fail
          have hgk := HGK.out
          go_roundg (200 - (k + 1))
          case measure => omega
          case rel => exact ⟨k + 1, ⟨0, 0, 0, 0⟩, by omega, rfl, by go_num, by go_num, HC.out.1, HC4.out.1, HC4.out.2⟩
        · as_aux_lemma =>
          obtain rfl : n = 0 := HRI.out.1.2.1 rfl
          have em : (m == 0) = false := by have := HRI.out.2.2; simp; omega
          have x0 : wc.cell? ⟨w.heap.size, 0, none⟩ = some (.int .i64 0) := blk_cell BH' 0
          have x1 : wc.cell? ⟨w.heap.size, 1, none⟩ = some (.int .u64 0) := blk_cell BH' 1
          have x2 : wc.cell? ⟨w.heap.size, 2, none⟩ = some (.int .i64 1) := blk_cell BH' 2
          have x3 : wc.cell? ⟨w.heap.size, 3, none⟩ = some (.int .u64 m) := blk_cell BH' 3
          have HC := Lib.hid (And.intro hrr (And.intro hb' BH'))
          clear hrr hb' BH'
          go_wp2_with fail
          refine (state_01 0 m HC.out.1 _).mono ?_
          rintro e w3 ⟨rfl, hb3⟩
          clear x0 x1 x2 x3
          have BH3 := blk_below HC.out.2.2 hb3 (blk_lt HC.out.2.2)
          have z3 := blk_lt BH3
          have x0 : w3.cell? ⟨w.heap.size, 0, none⟩ = some (.int .i64 0) := blk_cell BH3 0
          have x1 : w3.cell? ⟨w.heap.size, 1, none⟩ = some (.int .u64 0) := blk_cell BH3 1
          have x2 : w3.cell? ⟨w.heap.size, 2, none⟩ = some (.int .i64 1) := blk_cell BH3 2
          have x3 : w3.cell? ⟨w.heap.size, 3, none⟩ = some (.int .u64 m) := blk_cell BH3 3
          have HC3 := Lib.hid (And.intro hb3 BH3)
          clear hb3 BH3
          go_wp2_with fail
          refine (sub_01 0 m HC.out.1 _).mono ?_
          rintro e w4 ⟨rfl, hb4⟩
          clear x0 x1 x2 x3
          have BH4 := blk_below HC3.out.2 hb4 (blk_lt HC3.out.2)
          have hb5 : Below w.heap.size w w4 := (HC.out.2.1.trans (HC3.out.1.mono (by omega))).trans (hb4.mono (by omega))
          have HC4 := Lib.hid (And.intro hb5 BH4)
          clear hb4 hb5 BH4
          go_wp2_with fail
          have hgk := HGK.out
          go_roundg (200 - (k + 1))
          case measure => omega
          case rel => exact ⟨k + 1, ⟨0, 0, 1, m⟩, by omega, rfl, by go_num, by go_num, HC.out.1, HC4.out.1, HC4.out.2⟩
        · as_aux_lemma =>
          obtain rfl : n = 0 := HRI.out.1.2.1 rfl
          have em : (m == 0) = false := by have := HRI.out.2.2; simp; omega
          have x0 : wc.cell? ⟨w.heap.size, 0, none⟩ = some (.int .i64 0) := blk_cell BH' 0
          have x1 : wc.cell? ⟨w.heap.size, 1, none⟩ = some (.int .u64 0) := blk_cell BH' 1
          have x2 : wc.cell? ⟨w.heap.size, 2, none⟩ = some (.int .i64 2) := blk_cell BH' 2
          have x3 : wc.cell? ⟨w.heap.size, 3, none⟩ = some (.int .u64 m) := blk_cell BH' 3
          have HC := Lib.hid (And.intro hrr (And.intro hb' BH'))
          clear hrr hb' BH'
          go_wp2_with fail
          refine (state_02 0 m HC.out.1 _).mono ?_
          rintro e w3 ⟨rfl, hb3⟩
          clear x0 x1 x2 x3
          have BH3 := blk_below HC.out.2.2 hb3 (blk_lt HC.out.2.2)
          have z3 := blk_lt BH3
          have x0 : w3.cell? ⟨w.heap.size, 0, none⟩ = some (.int .i64 0) := blk_cell BH3 0
          have x1 : w3.cell? ⟨w.heap.size, 1, none⟩ = some (.int .u64 0) := blk_cell BH3 1
          have x2 : w3.cell? ⟨w.heap.size, 2, none⟩ = some (.int .i64 2) := blk_cell BH3 2
          have x3 : w3.cell? ⟨w.heap.size, 3, none⟩ = some (.int .u64 m) := blk_cell BH3 3
          have HC3 := Lib.hid (And.intro hb3 BH3)
          clear hb3 BH3
          go_wp2_with fail
          refine (sub_02 0 m HC.out.1 _).mono ?_
          rintro e w4 ⟨rfl, hb4⟩
          clear x0 x1 x2 x3
          have BH4 := blk_below HC3.out.2 hb4 (blk_lt HC3.out.2)
          have hb5 : Below w.heap.size w w4 := (HC.out.2.1.trans (HC3.out.1.mono (by omega))).trans (hb4.mono (by omega))
          have HC4 := Lib.hid (And.intro hb5 BH4)
          clear hb4 hb5 BH4
          go_wp2_with fail
          have hgk := HGK.out
          go_roundg (200 - (k + 1))
          case measure => omega
          case rel => exact ⟨k + 1, ⟨0, 0, 2, m⟩, by omega, rfl, by go_num, by go_num, HC.out.1, HC4.out.1, HC4.out.2⟩
        · as_aux_lemma =>
          have en : (n == 0) = false := by have := HRI.out.1.2; simp; omega
          obtain rfl : m = 0 := HRI.out.2.2.1 rfl
          have x0 : wc.cell? ⟨w.heap.size, 0, none⟩ = some (.int .i64 1) := blk_cell BH' 0
          have x1 : wc.cell? ⟨w.heap.size, 1, none⟩ = some (.int .u64 n) := blk_cell BH' 1
          have x2 : wc.cell? ⟨w.heap.size, 2, none⟩ = some (.int .i64 0) := blk_cell BH' 2
          have x3 : wc.cell? ⟨w.heap.size, 3, none⟩ = some (.int .u64 0) := blk_cell BH' 3
          have hcat : ((⟨#[110, 111, 110, 101]⟩ : ByteArray) ++ ⟨#[44, 97, 115, 107]⟩) = ⟨#[110, 111, 110, 101, 44, 97, 115, 107]⟩ := rfl
          have HC := Lib.hid (And.intro hrr (And.intro hb' BH'))
          clear hrr hb' BH'
          go_wp2_with fail
          refine (state_10 n 0 HC.out.1 _).mono ?_
          rintro e w3 ⟨rfl, hb3⟩
          clear x0 x1 x2 x3
          have BH3 := blk_below HC.out.2.2 hb3 (blk_lt HC.out.2.2)
          have z3 := blk_lt BH3
          have x0 : w3.cell? ⟨w.heap.size, 0, none⟩ = some (.int .i64 1) := blk_cell BH3 0
          have x1 : w3.cell? ⟨w.heap.size, 1, none⟩ = some (.int .u64 n) := blk_cell BH3 1
          have x2 : w3.cell? ⟨w.heap.size, 2, none⟩ = some (.int .i64 0) := blk_cell BH3 2
          have x3 : w3.cell? ⟨w.heap.size, 3, none⟩ = some (.int .u64 0) := blk_cell BH3 3
          have HC3 := Lib.hid (And.intro hb3 BH3)
          clear hb3 BH3
          go_wp2_with fail
          refine (sub_10 n 0 HC.out.1 _).mono ?_
          rintro e w4 ⟨rfl, hb4⟩
          clear x0 x1 x2 x3
          have BH4 := blk_below HC3.out.2 hb4 (blk_lt HC3.out.2)
          have hb5 : Below w.heap.size w w4 := (HC.out.2.1.trans (HC3.out.1.mono (by omega))).trans (hb4.mono (by omega))
          have HC4 := Lib.hid (And.intro hb5 BH4)
          clear hb4 hb5 BH4
          go_wp2_with fail
          have hgk := HGK.out
          go_roundg (200 - (k + 1))
          case measure => omega
          case rel => exact ⟨k + 1, ⟨1, n, 0, 0⟩, by omega, rfl, by go_num, by go_num, HC.out.1, HC4.out.1, HC4.out.2⟩
        · as_aux_lemma =>
          have en : (n == 0) = false := by have := HRI.out.1.2; simp; omega
          have em : (m == 0) = false := by have := HRI.out.2.2; simp; omega
          have x0 : wc.cell? ⟨w.heap.size, 0, none⟩ = some (.int .i64 1) := blk_cell BH' 0
          have x1 : wc.cell? ⟨w.heap.size, 1, none⟩ = some (.int .u64 n) := blk_cell BH' 1
          have x2 : wc.cell? ⟨w.heap.size, 2, none⟩ = some (.int .i64 1) := blk_cell BH' 2
          have x3 : wc.cell? ⟨w.heap.size, 3, none⟩ = some (.int .u64 m) := blk_cell BH' 3
          have hcat : ((⟨#[110, 111, 110, 101]⟩ : ByteArray) ++ ⟨#[44, 97, 115, 107]⟩) = ⟨#[110, 111, 110, 101, 44, 97, 115, 107]⟩ := rfl
          have HC := Lib.hid (And.intro hrr (And.intro hb' BH'))
          clear hrr hb' BH'
          go_wp2_with fail
          refine (state_11 n m HC.out.1 _).mono ?_
          rintro e w3 ⟨rfl, hb3⟩
          clear x0 x1 x2 x3
          have BH3 := blk_below HC.out.2.2 hb3 (blk_lt HC.out.2.2)
          have z3 := blk_lt BH3
          have x0 : w3.cell? ⟨w.heap.size, 0, none⟩ = some (.int .i64 1) := blk_cell BH3 0
          have x1 : w3.cell? ⟨w.heap.size, 1, none⟩ = some (.int .u64 n) := blk_cell BH3 1
          have x2 : w3.cell? ⟨w.heap.size, 2, none⟩ = some (.int .i64 1) := blk_cell BH3 2
          have x3 : w3.cell? ⟨w.heap.size, 3, none⟩ = some (.int .u64 m) := blk_cell BH3 3
          have HC3 := Lib.hid (And.intro hb3 BH3)
          clear hb3 BH3
          go_wp2_with fail
          refine (sub_11 n m HC.out.1 _).mono ?_
          rintro e w4 ⟨rfl, hb4⟩
          clear x0 x1 x2 x3
          have BH4 := blk_below HC3.out.2 hb4 (blk_lt HC3.out.2)
          have hb5 : Below w.heap.size w w4 := (HC.out.2.1.trans (HC3.out.1.mono (by omega))).trans (hb4.mono (by omega))
          have HC4 := Lib.hid (And.intro hb5 BH4)
          clear hb4 hb5 BH4
          go_wp2_with fail
          have hgk := HGK.out
          go_roundg (200 - (k + 1))
          case measure => omega
          case rel => exact ⟨k + 1, ⟨1, n, 1, m⟩, by omega, rfl, by go_num, by go_num, HC.out.1, HC4.out.1, HC4.out.2⟩
        · as_aux_lemma =>
          have en : (n == 0) = false := by have := HRI.out.1.2; simp; omega
          have em : (m == 0) = false := by have := HRI.out.2.2; simp; omega
          have x0 : wc.cell? ⟨w.heap.size, 0, none⟩ = some (.int .i64 1) := blk_cell BH' 0
          have x1 : wc.cell? ⟨w.heap.size, 1, none⟩ = some (.int .u64 n) := blk_cell BH' 1
          have x2 : wc.cell? ⟨w.heap.size, 2, none⟩ = some (.int .i64 2) := blk_cell BH' 2
          have x3 : wc.cell? ⟨w.heap.size, 3, none⟩ = some (.int .u64 m) := blk_cell BH' 3
          have hcat : ((⟨#[102, 114, 111, 109]⟩ : ByteArray) ++ ⟨#[44, 97, 115, 107]⟩) = ⟨#[102, 114, 111, 109, 44, 97, 115, 107]⟩ := rfl
          have HC := Lib.hid (And.intro hrr (And.intro hb' BH'))
          clear hrr hb' BH'
          go_wp2_with fail
          refine (state_12 n m HC.out.1 _).mono ?_
          rintro e w3 ⟨rfl, hb3⟩
          clear x0 x1 x2 x3
          have BH3 := blk_below HC.out.2.2 hb3 (blk_lt HC.out.2.2)
          have z3 := blk_lt BH3
          have x0 : w3.cell? ⟨w.heap.size, 0, none⟩ = some (.int .i64 1) := blk_cell BH3 0
          have x1 : w3.cell? ⟨w.heap.size, 1, none⟩ = some (.int .u64 n) := blk_cell BH3 1
          have x2 : w3.cell? ⟨w.heap.size, 2, none⟩ = some (.int .i64 2) := blk_cell BH3 2
          have x3 : w3.cell? ⟨w.heap.size, 3, none⟩ = some (.int .u64 m) := blk_cell BH3 3
          have HC3 := Lib.hid (And.intro hb3 BH3)
          clear hb3 BH3
          go_wp2_with fail
          refine (sub_12 n m HC.out.1 _).mono ?_
          rintro e w4 ⟨rfl, hb4⟩
          clear x0 x1 x2 x3
          have BH4 := blk_below HC3.out.2 hb4 (blk_lt HC3.out.2)
          have hb5 : Below w.heap.size w w4 := (HC.out.2.1.trans (HC3.out.1.mono (by omega))).trans (hb4.mono (by omega))
          have HC4 := Lib.hid (And.intro hb5 BH4)
          clear hb4 hb5 BH4
          go_wp2_with fail
          have hgk := HGK.out
          go_roundg (200 - (k + 1))
          case measure => omega
          case rel => exact ⟨k + 1, ⟨1, n, 2, m⟩, by omega, rfl, by go_num, by go_num, HC.out.1, HC4.out.1, HC4.out.2⟩
        · as_aux_lemma =>
          have en : (n == 0) = false := by have := HRI.out.1.2; simp; omega
          obtain rfl : m = 0 := HRI.out.2.2.1 rfl
          have x0 : wc.cell? ⟨w.heap.size, 0, none⟩ = some (.int .i64 2) := blk_cell BH' 0
          have x1 : wc.cell? ⟨w.heap.size, 1, none⟩ = some (.int .u64 n) := blk_cell BH' 1
          have x2 : wc.cell? ⟨w.heap.size, 2, none⟩ = some (.int .i64 0) := blk_cell BH' 2
          have x3 : wc.cell? ⟨w.heap.size, 3, none⟩ = some (.int .u64 0) := blk_cell BH' 3
          have HC := Lib.hid (And.intro hrr (And.intro hb' BH'))
          clear hrr hb' BH'
          go_wp2_with fail
          refine (state_20 n 0 HC.out.1 _).mono ?_
          rintro e w3 ⟨rfl, hb3⟩
          clear x0 x1 x2 x3
          have BH3 := blk_below HC.out.2.2 hb3 (blk_lt HC.out.2.2)
          have z3 := blk_lt BH3
          have x0 : w3.cell? ⟨w.heap.size, 0, none⟩ = some (.int .i64 2) := blk_cell BH3 0
          have x1 : w3.cell? ⟨w.heap.size, 1, none⟩ = some (.int .u64 n) := blk_cell BH3 1
          have x2 : w3.cell? ⟨w.heap.size, 2, none⟩ = some (.int .i64 0) := blk_cell BH3 2
          have x3 : w3.cell? ⟨w.heap.size, 3, none⟩ = some (.int .u64 0) := blk_cell BH3 3
          have HC3 := Lib.hid (And.intro hb3 BH3)
          clear hb3 BH3
          go_wp2_with fail
          refine (sub_20 n 0 HC.out.1 _).mono ?_
          rintro e w4 ⟨rfl, hb4⟩
          clear x0 x1 x2 x3
          have BH4 := blk_below HC3.out.2 hb4 (blk_lt HC3.out.2)
          have hb5 : Below w.heap.size w w4 := (HC.out.2.1.trans (HC3.out.1.mono (by omega))).trans (hb4.mono (by omega))
          have HC4 := Lib.hid (And.intro hb5 BH4)
          clear hb4 hb5 BH4
          go_wp2_with fail
          have hgk := HGK.out
          go_roundg (200 - (k + 1))
          case measure => omega
          case rel => exact ⟨k + 1, ⟨2, n, 0, 0⟩, by omega, rfl, by go_num, by go_num, HC.out.1, HC4.out.1, HC4.out.2⟩
        · as_aux_lemma =>
          have en : (n == 0) = false := by have := HRI.out.1.2; simp; omega
          have em : (m == 0) = false := by have := HRI.out.2.2; simp; omega
          have x0 : wc.cell? ⟨w.heap.size, 0, none⟩ = some (.int .i64 2) := blk_cell BH' 0
          have x1 : wc.cell? ⟨w.heap.size, 1, none⟩ = some (.int .u64 n) := blk_cell BH' 1
          have x2 : wc.cell? ⟨w.heap.size, 2, none⟩ = some (.int .i64 1) := blk_cell BH' 2
          have x3 : wc.cell? ⟨w.heap.size, 3, none⟩ = some (.int .u64 m) := blk_cell BH' 3
          have HC := Lib.hid (And.intro hrr (And.intro hb' BH'))
          clear hrr hb' BH'
          go_wp2_with fail
          refine (state_21 n m HC.out.1 _).mono ?_
          rintro e w3 ⟨rfl, hb3⟩
          clear x0 x1 x2 x3
          have BH3 := blk_below HC.out.2.2 hb3 (blk_lt HC.out.2.2)
          have z3 := blk_lt BH3
          have x0 : w3.cell? ⟨w.heap.size, 0, none⟩ = some (.int .i64 2) := blk_cell BH3 0
          have x1 : w3.cell? ⟨w.heap.size, 1, none⟩ = some (.int .u64 n) := blk_cell BH3 1
          have x2 : w3.cell? ⟨w.heap.size, 2, none⟩ = some (.int .i64 1) := blk_cell BH3 2
          have x3 : w3.cell? ⟨w.heap.size, 3, none⟩ = some (.int .u64 m) := blk_cell BH3 3
          have HC3 := Lib.hid (And.intro hb3 BH3)
          clear hb3 BH3
          go_wp2_with fail
          refine (sub_21 n m HC.out.1 _).mono ?_
          rintro e w4 ⟨rfl, hb4⟩
          clear x0 x1 x2 x3
          have BH4 := blk_below HC3.out.2 hb4 (blk_lt HC3.out.2)
          have hb5 : Below w.heap.size w w4 := (HC.out.2.1.trans (HC3.out.1.mono (by omega))).trans (hb4.mono (by omega))
          have HC4 := Lib.hid (And.intro hb5 BH4)
          clear hb4 hb5 BH4
          go_wp2_with fail
          have hgk := HGK.out
          go_roundg (200 - (k + 1))
          case measure => omega
          case rel => exact ⟨k + 1, ⟨2, n, 1, m⟩, by omega, rfl, by go_num, by go_num, HC.out.1, HC4.out.1, HC4.out.2⟩
        · as_aux_lemma =>
          have en : (n == 0) = false := by have := HRI.out.1.2; simp; omega
          have em : (m == 0) = false := by have := HRI.out.2.2; simp; omega
          have x0 : wc.cell? ⟨w.heap.size, 0, none⟩ = some (.int .i64 2) := blk_cell BH' 0
          have x1 : wc.cell? ⟨w.heap.size, 1, none⟩ = some (.int .u64 n) := blk_cell BH' 1
          have x2 : wc.cell? ⟨w.heap.size, 2, none⟩ = some (.int .i64 2) := blk_cell BH' 2
          have x3 : wc.cell? ⟨w.heap.size, 3, none⟩ = some (.int .u64 m) := blk_cell BH' 3
          have HC := Lib.hid (And.intro hrr (And.intro hb' BH'))
          clear hrr hb' BH'
          go_wp2_with fail
          refine (state_22 n m HC.out.1 _).mono ?_
          rintro e w3 ⟨rfl, hb3⟩
          clear x0 x1 x2 x3
          have BH3 := blk_below HC.out.2.2 hb3 (blk_lt HC.out.2.2)
          have z3 := blk_lt BH3
          have x0 : w3.cell? ⟨w.heap.size, 0, none⟩ = some (.int .i64 2) := blk_cell BH3 0
          have x1 : w3.cell? ⟨w.heap.size, 1, none⟩ = some (.int .u64 n) := blk_cell BH3 1
          have x2 : w3.cell? ⟨w.heap.size, 2, none⟩ = some (.int .i64 2) := blk_cell BH3 2
          have x3 : w3.cell? ⟨w.heap.size, 3, none⟩ = some (.int .u64 m) := blk_cell BH3 3
          have HC3 := Lib.hid (And.intro hb3 BH3)
          clear hb3 BH3
          go_wp2_with fail
          refine (sub_22 n m HC.out.1 _).mono ?_
          rintro e w4 ⟨rfl, hb4⟩
          clear x0 x1 x2 x3
          have BH4 := blk_below HC3.out.2 hb4 (blk_lt HC3.out.2)
          have hb5 : Below w.heap.size w w4 := (HC.out.2.1.trans (HC3.out.1.mono (by omega))).trans (hb4.mono (by omega))
          have HC4 := Lib.hid (And.intro hb5 BH4)
          clear hb4 hb5 BH4
          go_wp2_with fail
          have hgk := HGK.out
          go_roundg (200 - (k + 1))
          case measure => omega
          case rel => exact ⟨k + 1, ⟨2, n, 2, m⟩, by omega, rfl, by go_num, by go_num, HC.out.1, HC4.out.1, HC4.out.2⟩
    · have hk0 : k < L → k = 200 := fun h => by omega
      by_cases hkL : k < L
      · have t1 : decide (k < L) = true := by simpa using hkL
        have t2 : decide ((k : Int) < 200) = false := by have := hk0 hkL; simp; omega
        go_wp2_with fail
        refine (wakes_any _).mono ?_
        rintro e w2 ⟨rfl, hb2⟩
        go_wp2_with fail
        go_ret
        exact ⟨rfl, HB.out.trans (hb2.mono (by omega))⟩
      · have t1 : decide (k < L) = false := by simpa using hkL
        go_wp2_with fail
        refine (wakes_any _).mono ?_
        rintro e w2 ⟨rfl, hb2⟩
        go_wp2_with fail
        go_ret
        exact ⟨rfl, HB.out.trans (hb2.mono (by omega))⟩
end Go.Proofs.Ytgaimcdkbknljaa
