import Derived.Test.YtgaimcdkbknljaaA6
import Derived.Test.YtgaimcdkbknljaaA5
import Derived.Test.YtgaimcdkbknljaaMem
import Derived.Deep.RegionHeld3
namespace Go.Proofs.Ytgaimcdkbknljaa
set_option linter.unusedSimpArgs false
set_option linter.unusedVariables false
open Go.RowKit

theorem actV_form (x : Option (Half × Int × Int)) : ∃ (ah : Half) (am an ae : Int), actV x = .tuple #[ah.val, .int .i64 am, .int .u64 an, .int .i64 ae] := by
  cases x with
  | none => exact ⟨⟨0, 0, 0, 0⟩, 0, 0, 1, rfl⟩
  | some x => exact ⟨x.1, x.2.1, x.2.2, 0, rfl⟩
theorem hearV_form (x : Option (Half × Int)) : ∃ (ah : Half) (am ae : Int), hearV x = .tuple #[ah.val, .int .i64 am, .int .i64 ae] := by
  cases x with
  | none => exact ⟨⟨0, 0, 0, 0⟩, 0, 1, rfl⟩
  | some x => exact ⟨x.1, x.2, 0, rfl⟩

theorem same_refl4 (o n i m : Int) (w : World) :
    Calls Try.prog 12 #[.agg #[.int .i64 o, .int .u64 n, .int .i64 i, .int .u64 m], .agg #[.int .i64 o, .int .u64 n, .int .i64 i, .int .u64 m]] w fun e w' => e = .returned (.bool true) ∧ Below w.heap.size w w' := same_refl ⟨o, n, i, m⟩ w

set_option maxRecDepth 100000 in
set_option maxHeartbeats 4000000 in
theorem exact_any (h : Half) (k m n : Int) (w : World) :
    Calls Try.prog 4 #[.agg #[.int .i64 h.o, .int .u64 h.n, .int .i64 h.i, .int .u64 h.m, .int .i64 k, .int .i64 m, .int .u64 n]] w fun e w' => e = .returned (.bool true) ∧ Below w.heap.size w w' := by
  obtain ⟨ah, am, an, ae, ea⟩ := actV_form (actS h k n)
  obtain ⟨ch, ct, ce, ec⟩ := hearV_form (hearS h m n)
  have hact := Lib.hid (fun w => ea ▸ act_any h k n w)
  have hract := Lib.hid (fun w => ea ▸ ract_any h k n w)
  have hhear := Lib.hid (fun w => ec ▸ hear_any h m n w)
  have hrhear := Lib.hid (fun w => ec ▸ rhear_any h m n w)
  clear ea ec
  obtain ⟨ss, es⟩ : ∃ ss, strV (stateS h) = .string ss := ⟨_, rfl⟩
  obtain ⟨bs, eb⟩ : ∃ ss, strV (subS h) = .string ss := ⟨_, rfl⟩
  have hst := Lib.hid (fun w => es ▸ state_any h w)
  have hrst := Lib.hid (fun w => es ▸ rstate_any h w)
  have hsu := Lib.hid (fun w => eb ▸ sub_any h w)
  have hrsu := Lib.hid (fun w => eb ▸ rsub_any h w)
  clear es eb
  go_enter Try.func4, Try.ntmps4
  go_wp2_with fail
  go_region
  go_wp2_with fail

  refine (hact.out _).mono ?_
  rintro e w1 ⟨rfl, hb1⟩
  have BH : w1.heap[w.heap.size + 1]? = some (.cells #[.int .i64 h.o, .int .u64 h.n, .int .i64 h.i, .int .u64 h.m] 25) := blk_below (blk_drew (blk_new' _ (by simp))) hb1 (by simp)
  have hB : Below w.heap.size w w1 := Below.trans (by repeat (first | exact Below.refl _ _ | refine Below.drew ?_ | refine Below.alloc ?_ (by first | omega | (simp; omega) | simp) _)) (hb1.mono (by simp; omega))
  have z1 : w.heap.size + 1 < w1.heap.size := blk_lt BH
  clear hb1
  have H0 : w1.cell? ⟨w.heap.size + 1, 0, none⟩ = some (.int .i64 h.o) := blk_cell BH 0
  have H1 : w1.cell? ⟨w.heap.size + 1, 1, none⟩ = some (.int .u64 h.n) := blk_cell BH 1
  have H2 : w1.cell? ⟨w.heap.size + 1, 2, none⟩ = some (.int .i64 h.i) := blk_cell BH 2
  have H3 : w1.cell? ⟨w.heap.size + 1, 3, none⟩ = some (.int .u64 h.m) := blk_cell BH 3
  go_wp2_with fail
  refine (hract.out _).mono ?_
  rintro e w2 ⟨rfl, hb2⟩
  have BHn := blk_below (blk_alloc BH _) hb2 (blk_lt (blk_alloc BH _))
  have BAn : w2.heap[w1.heap.size]? = some (.cells #[.int .i64 ah.o, .int .u64 ah.n, .int .i64 ah.i, .int .u64 ah.m] 25) := blk_below (blk_new w1 _) hb2 (by simp)
  have hBn : Below w.heap.size w w2 := Below.trans (Below.alloc hB (by omega) _) (hb2.mono (by simp; omega))
  clear H0 H1 H2 H3 hb2 hB BH
  have hB := hBn
  have BH := BHn
  have BA := BAn
  clear hBn BHn BAn
  have zH2 := blk_lt BH
  have zA2 := blk_lt BA
  have H0 : w2.cell? ⟨w.heap.size + 1, 0, none⟩ = some (.int .i64 h.o) := blk_cell BH 0
  have H1 : w2.cell? ⟨w.heap.size + 1, 1, none⟩ = some (.int .u64 h.n) := blk_cell BH 1
  have H2 : w2.cell? ⟨w.heap.size + 1, 2, none⟩ = some (.int .i64 h.i) := blk_cell BH 2
  have H3 : w2.cell? ⟨w.heap.size + 1, 3, none⟩ = some (.int .u64 h.m) := blk_cell BH 3
  have A0 : w2.cell? ⟨w1.heap.size, 0, none⟩ = some (.int .i64 ah.o) := blk_cell BA 0
  have A1 : w2.cell? ⟨w1.heap.size, 1, none⟩ = some (.int .u64 ah.n) := blk_cell BA 1
  have A2 : w2.cell? ⟨w1.heap.size, 2, none⟩ = some (.int .i64 ah.i) := blk_cell BA 2
  have A3 : w2.cell? ⟨w1.heap.size, 3, none⟩ = some (.int .u64 ah.m) := blk_cell BA 3
  go_wp2_with fail
  refine (hhear.out _).mono ?_
  rintro e w3 ⟨rfl, hb3⟩
  have BHn := blk_below (blk_alloc BH _) hb3 (blk_lt (blk_alloc BH _))
  have BAn := blk_below (blk_alloc BA _) hb3 (blk_lt (blk_alloc BA _))
  have BBn : w3.heap[w2.heap.size]? = some (.cells #[.int .i64 ah.o, .int .u64 ah.n, .int .i64 ah.i, .int .u64 ah.m] 25) := blk_below (blk_new w2 _) hb3 (by simp)
  have hBn : Below w.heap.size w w3 := Below.trans (Below.alloc hB (by omega) _) (hb3.mono (by simp; omega))
  clear H0 H1 H2 H3 A0 A1 A2 A3 hb3 hB BH BA
  have hB := hBn
  have BH := BHn
  have BA := BAn
  have BB := BBn
  clear hBn BHn BAn BBn
  have zH3 := blk_lt BH
  have zA3 := blk_lt BA
  have zB3 := blk_lt BB
  have H0 : w3.cell? ⟨w.heap.size + 1, 0, none⟩ = some (.int .i64 h.o) := blk_cell BH 0
  have H1 : w3.cell? ⟨w.heap.size + 1, 1, none⟩ = some (.int .u64 h.n) := blk_cell BH 1
  have H2 : w3.cell? ⟨w.heap.size + 1, 2, none⟩ = some (.int .i64 h.i) := blk_cell BH 2
  have H3 : w3.cell? ⟨w.heap.size + 1, 3, none⟩ = some (.int .u64 h.m) := blk_cell BH 3
  have A0 : w3.cell? ⟨w1.heap.size, 0, none⟩ = some (.int .i64 ah.o) := blk_cell BA 0
  have A1 : w3.cell? ⟨w1.heap.size, 1, none⟩ = some (.int .u64 ah.n) := blk_cell BA 1
  have A2 : w3.cell? ⟨w1.heap.size, 2, none⟩ = some (.int .i64 ah.i) := blk_cell BA 2
  have A3 : w3.cell? ⟨w1.heap.size, 3, none⟩ = some (.int .u64 ah.m) := blk_cell BA 3
  have B0 : w3.cell? ⟨w2.heap.size, 0, none⟩ = some (.int .i64 ah.o) := blk_cell BB 0
  have B1 : w3.cell? ⟨w2.heap.size, 1, none⟩ = some (.int .u64 ah.n) := blk_cell BB 1
  have B2 : w3.cell? ⟨w2.heap.size, 2, none⟩ = some (.int .i64 ah.i) := blk_cell BB 2
  have B3 : w3.cell? ⟨w2.heap.size, 3, none⟩ = some (.int .u64 ah.m) := blk_cell BB 3
  go_wp2_with fail
  refine (hrhear.out _).mono ?_
  rintro e w4 ⟨rfl, hb4⟩
  have BHn := blk_below (blk_alloc BH _) hb4 (blk_lt (blk_alloc BH _))
  have BAn := blk_below (blk_alloc BA _) hb4 (blk_lt (blk_alloc BA _))
  have BBn := blk_below (blk_alloc BB _) hb4 (blk_lt (blk_alloc BB _))
  have BCn : w4.heap[w3.heap.size]? = some (.cells #[.int .i64 ch.o, .int .u64 ch.n, .int .i64 ch.i, .int .u64 ch.m] 25) := blk_below (blk_new w3 _) hb4 (by simp)
  have hBn : Below w.heap.size w w4 := Below.trans (Below.alloc hB (by omega) _) (hb4.mono (by simp; omega))
  clear H0 H1 H2 H3 A0 A1 A2 A3 B0 B1 B2 B3 hb4 hB BH BA BB
  have hB := hBn
  have BH := BHn
  have BA := BAn
  have BB := BBn
  have BC := BCn
  clear hBn BHn BAn BBn BCn
  have zH4 := blk_lt BH
  have zA4 := blk_lt BA
  have zB4 := blk_lt BB
  have zC4 := blk_lt BC
  have H0 : w4.cell? ⟨w.heap.size + 1, 0, none⟩ = some (.int .i64 h.o) := blk_cell BH 0
  have H1 : w4.cell? ⟨w.heap.size + 1, 1, none⟩ = some (.int .u64 h.n) := blk_cell BH 1
  have H2 : w4.cell? ⟨w.heap.size + 1, 2, none⟩ = some (.int .i64 h.i) := blk_cell BH 2
  have H3 : w4.cell? ⟨w.heap.size + 1, 3, none⟩ = some (.int .u64 h.m) := blk_cell BH 3
  have A0 : w4.cell? ⟨w1.heap.size, 0, none⟩ = some (.int .i64 ah.o) := blk_cell BA 0
  have A1 : w4.cell? ⟨w1.heap.size, 1, none⟩ = some (.int .u64 ah.n) := blk_cell BA 1
  have A2 : w4.cell? ⟨w1.heap.size, 2, none⟩ = some (.int .i64 ah.i) := blk_cell BA 2
  have A3 : w4.cell? ⟨w1.heap.size, 3, none⟩ = some (.int .u64 ah.m) := blk_cell BA 3
  have B0 : w4.cell? ⟨w2.heap.size, 0, none⟩ = some (.int .i64 ah.o) := blk_cell BB 0
  have B1 : w4.cell? ⟨w2.heap.size, 1, none⟩ = some (.int .u64 ah.n) := blk_cell BB 1
  have B2 : w4.cell? ⟨w2.heap.size, 2, none⟩ = some (.int .i64 ah.i) := blk_cell BB 2
  have B3 : w4.cell? ⟨w2.heap.size, 3, none⟩ = some (.int .u64 ah.m) := blk_cell BB 3
  have C0 : w4.cell? ⟨w3.heap.size, 0, none⟩ = some (.int .i64 ch.o) := blk_cell BC 0
  have C1 : w4.cell? ⟨w3.heap.size, 1, none⟩ = some (.int .u64 ch.n) := blk_cell BC 1
  have C2 : w4.cell? ⟨w3.heap.size, 2, none⟩ = some (.int .i64 ch.i) := blk_cell BC 2
  have C3 : w4.cell? ⟨w3.heap.size, 3, none⟩ = some (.int .u64 ch.m) := blk_cell BC 3
  go_wp2_with fail
  generalize hW : w4.alloc (.cells #[.int .i64 ch.o, .int .u64 ch.n, .int .i64 ch.i, .int .u64 ch.m] 25) = W
  have BHn : W.heap[w.heap.size + 1]? = some (.cells #[.int .i64 h.o, .int .u64 h.n, .int .i64 h.i, .int .u64 h.m] 25) := by subst hW; exact blk_alloc BH _
  have BAn : W.heap[w1.heap.size]? = some (.cells #[.int .i64 ah.o, .int .u64 ah.n, .int .i64 ah.i, .int .u64 ah.m] 25) := by subst hW; exact blk_alloc BA _
  have BBn : W.heap[w2.heap.size]? = some (.cells #[.int .i64 ah.o, .int .u64 ah.n, .int .i64 ah.i, .int .u64 ah.m] 25) := by subst hW; exact blk_alloc BB _
  have BCn : W.heap[w3.heap.size]? = some (.cells #[.int .i64 ch.o, .int .u64 ch.n, .int .i64 ch.i, .int .u64 ch.m] 25) := by subst hW; exact blk_alloc BC _
  have BDn : W.heap[w4.heap.size]? = some (.cells #[.int .i64 ch.o, .int .u64 ch.n, .int .i64 ch.i, .int .u64 ch.m] 25) := by subst hW; exact blk_new w4 _
  have hBn : Below w.heap.size w W := by subst hW; exact Below.alloc hB (by omega) _
  clear hW hB H0 H1 H2 H3 A0 A1 A2 A3 B0 B1 B2 B3 C0 C1 C2 C3 BH BA BB BC
  have BH := BHn
  have BA := BAn
  have BB := BBn
  have BC := BCn
  have BD := BDn
  have hB := hBn
  clear hBn BHn BAn BBn BCn BDn
  have zH5 := blk_lt BH
  have zA5 := blk_lt BA
  have zB5 := blk_lt BB
  have zC5 := blk_lt BC
  have zD5 := blk_lt BD
  have H0 : W.cell? ⟨w.heap.size + 1, 0, none⟩ = some (.int .i64 h.o) := blk_cell BH 0
  have H1 : W.cell? ⟨w.heap.size + 1, 1, none⟩ = some (.int .u64 h.n) := blk_cell BH 1
  have H2 : W.cell? ⟨w.heap.size + 1, 2, none⟩ = some (.int .i64 h.i) := blk_cell BH 2
  have H3 : W.cell? ⟨w.heap.size + 1, 3, none⟩ = some (.int .u64 h.m) := blk_cell BH 3
  have A0 : W.cell? ⟨w1.heap.size, 0, none⟩ = some (.int .i64 ah.o) := blk_cell BA 0
  have A1 : W.cell? ⟨w1.heap.size, 1, none⟩ = some (.int .u64 ah.n) := blk_cell BA 1
  have A2 : W.cell? ⟨w1.heap.size, 2, none⟩ = some (.int .i64 ah.i) := blk_cell BA 2
  have A3 : W.cell? ⟨w1.heap.size, 3, none⟩ = some (.int .u64 ah.m) := blk_cell BA 3
  have B0 : W.cell? ⟨w2.heap.size, 0, none⟩ = some (.int .i64 ah.o) := blk_cell BB 0
  have B1 : W.cell? ⟨w2.heap.size, 1, none⟩ = some (.int .u64 ah.n) := blk_cell BB 1
  have B2 : W.cell? ⟨w2.heap.size, 2, none⟩ = some (.int .i64 ah.i) := blk_cell BB 2
  have B3 : W.cell? ⟨w2.heap.size, 3, none⟩ = some (.int .u64 ah.m) := blk_cell BB 3
  have C0 : W.cell? ⟨w3.heap.size, 0, none⟩ = some (.int .i64 ch.o) := blk_cell BC 0
  have C1 : W.cell? ⟨w3.heap.size, 1, none⟩ = some (.int .u64 ch.n) := blk_cell BC 1
  have C2 : W.cell? ⟨w3.heap.size, 2, none⟩ = some (.int .i64 ch.i) := blk_cell BC 2
  have C3 : W.cell? ⟨w3.heap.size, 3, none⟩ = some (.int .u64 ch.m) := blk_cell BC 3
  have D0 : W.cell? ⟨w4.heap.size, 0, none⟩ = some (.int .i64 ch.o) := blk_cell BD 0
  have D1 : W.cell? ⟨w4.heap.size, 1, none⟩ = some (.int .u64 ch.n) := blk_cell BD 1
  have D2 : W.cell? ⟨w4.heap.size, 2, none⟩ = some (.int .i64 ch.i) := blk_cell BD 2
  have D3 : W.cell? ⟨w4.heap.size, 3, none⟩ = some (.int .u64 ch.m) := blk_cell BD 3
  have HB := Lib.hid (And.intro hB (And.intro BH (And.intro BA (And.intro BB (And.intro BC BD)))))
  clear hB BH BA BB BC BD
  go_region_held3 (fun w' => Below w.heap.size w w' ∧ W.heap.size ≤ w'.heap.size ∧ w'.cell? ⟨w.heap.size + 1, 0, none⟩ = some (.int .i64 h.o) ∧ w'.cell? ⟨w.heap.size + 1, 1, none⟩ = some (.int .u64 h.n) ∧ w'.cell? ⟨w.heap.size + 1, 2, none⟩ = some (.int .i64 h.i) ∧ w'.cell? ⟨w.heap.size + 1, 3, none⟩ = some (.int .u64 h.m) ∧ w'.cell? ⟨w1.heap.size, 0, none⟩ = some (.int .i64 ah.o) ∧ w'.cell? ⟨w1.heap.size, 1, none⟩ = some (.int .u64 ah.n) ∧ w'.cell? ⟨w1.heap.size, 2, none⟩ = some (.int .i64 ah.i) ∧ w'.cell? ⟨w1.heap.size, 3, none⟩ = some (.int .u64 ah.m) ∧ w'.cell? ⟨w2.heap.size, 0, none⟩ = some (.int .i64 ah.o) ∧ w'.cell? ⟨w2.heap.size, 1, none⟩ = some (.int .u64 ah.n) ∧ w'.cell? ⟨w2.heap.size, 2, none⟩ = some (.int .i64 ah.i) ∧ w'.cell? ⟨w2.heap.size, 3, none⟩ = some (.int .u64 ah.m) ∧ w'.cell? ⟨w3.heap.size, 0, none⟩ = some (.int .i64 ch.o) ∧ w'.cell? ⟨w3.heap.size, 1, none⟩ = some (.int .u64 ch.n) ∧ w'.cell? ⟨w3.heap.size, 2, none⟩ = some (.int .i64 ch.i) ∧ w'.cell? ⟨w3.heap.size, 3, none⟩ = some (.int .u64 ch.m) ∧ w'.cell? ⟨w4.heap.size, 0, none⟩ = some (.int .i64 ch.o) ∧ w'.cell? ⟨w4.heap.size, 1, none⟩ = some (.int .u64 ch.n) ∧ w'.cell? ⟨w4.heap.size, 2, none⟩ = some (.int .i64 ch.i) ∧ w'.cell? ⟨w4.heap.size, 3, none⟩ = some (.int .u64 ch.m))
    (first
      | exact ⟨Below.drew HB.out.1, Nat.le_refl _, H0, H1, H2, H3, A0, A1, A2, A3, B0, B1, B2, B3, C0, C1, C2, C3, D0, D1, D2, D3⟩
      | (go_split_ands; refine ⟨Below.trans (by assumption) (hbc.mono (by omega)), by have := hbc.size; omega, ?_, ?_, ?_, ?_, ?_, ?_, ?_, ?_, ?_, ?_, ?_, ?_, ?_, ?_, ?_, ?_, ?_, ?_, ?_, ?_⟩ <;> (refine (hbc.cell (by first | (simp; done) | (simp; omega) | (dsimp only; omega))).trans ?_; assumption)))
    (first
      | (go_at_call 12; refine (same_refl4 _ _ _ _ _).mono ?_; rintro e w' ⟨rfl, hbc⟩)
      | (go_at_call 13; refine (hst.out _).mono ?_; rintro e w' ⟨rfl, hbc⟩)
      | (go_at_call 14; refine (hrst.out _).mono ?_; rintro e w' ⟨rfl, hbc⟩)
      | (go_at_call 15; refine (hsu.out _).mono ?_; rintro e w' ⟨rfl, hbc⟩)
      | (go_at_call 16; refine (hrsu.out _).mono ?_; rintro e w' ⟨rfl, hbc⟩)
      | (go_at_call 9; refine (wakes_any _).mono ?_; rintro e w' ⟨rfl, hbc⟩))
  rename_i hh
  go_wp2_with fail
  go_ret
  exact ⟨rfl, hh.1⟩
end Go.Proofs.Ytgaimcdkbknljaa
