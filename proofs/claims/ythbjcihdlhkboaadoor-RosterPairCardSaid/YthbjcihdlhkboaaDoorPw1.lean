/- RosterPair's walk: for all bounds and all steps it answers true. -/
import Derived.Test.YthbjcihdlhkboaaDoorPwa0
import Derived.Test.YthbjcihdlhkboaaDoorPwh0
import Derived.Test.YthbjcihdlhkboaaDoorPwa1
import Derived.Test.YthbjcihdlhkboaaDoorPwh1
import Derived.Test.YthbjcihdlhkboaaDoorStep2
import Derived.Outline
namespace Go.Proofs.YthbjcihdlhkboaaDoor
set_option linter.unusedSimpArgs false
set_option linter.unusedVariables false
open Go.RowKit Go.Maps Go.Shelf Go.Lib

theorem rem3 (x : Int) : 0 ≤ (x.tmod 3 + 3).tmod 3 ∧ (x.tmod 3 + 3).tmod 3 ≤ 2 ∧ -3 < x.tmod 3 ∧ x.tmod 3 < 3 := by
  have h1 := Int.tmod_lt_of_pos x (show (0 : Int) < 3 by decide)
  have h2 : -3 < x.tmod 3 := by have := Int.lt_tmod_of_pos x (show (0 : Int) < 3 by decide); omega
  have h3 : (x.tmod 3 + 3).tmod 3 = (x.tmod 3 + 3) % 3 := Int.tmod_eq_emod_of_nonneg (by omega)
  rw [h3]
  omega
theorem rem2 (x : Int) : 0 ≤ (x.tmod 2 + 2).tmod 2 ∧ (x.tmod 2 + 2).tmod 2 ≤ 1 ∧ -2 < x.tmod 2 ∧ x.tmod 2 < 2 := by
  have h1 := Int.tmod_lt_of_pos x (show (0 : Int) < 2 by decide)
  have h2 : -2 < x.tmod 2 := by have := Int.lt_tmod_of_pos x (show (0 : Int) < 2 by decide); omega
  have h3 : (x.tmod 2 + 2).tmod 2 = (x.tmod 2 + 2) % 2 := Int.tmod_eq_emod_of_nonneg (by omega)
  rw [h3]
  omega

set_option maxRecDepth 100000 in
set_option maxHeartbeats 64000000 in
theorem pair_any (w : World) (hT : Tabs w) (items asks : Int) (A : Option Addr) (L cap : Nat) (E D : Nat → Int) (hst : Steps w A L E D) (hL : L ≤ 9223372036854775807) :
    Calls Tryd.prog 3 #[.int .i64 items, .int .i64 asks, .slice A L cap] w fun e w' => e = .returned (.bool true) ∧ Below w.heap.size w w' := by
  have HT := Lib.hid hT
  have HI := Lib.hid (rem3 items)
  have HA := Lib.hid (rem2 asks)
  have HST := Lib.hid hst
  clear hT hst
  go_enter Tryd.func3, Tryd.ntmps3
  go_wp2_with fail
  go_loopg [10] 2 (fun gm s10 wx => ∃ k : Nat, k ≤ 2 ∧ gm = 2 - k ∧ ((k = 0 ∧ s10 = .int .i64 0) ∨ (k = 1 ∧ s10 = .int .i64 1) ∨ (k = 2 ∧ s10 = .int .i64 2)) ∧ Made w wx ((items.tmod 3 + 3).tmod 3) ((asks.tmod 2 + 2).tmod 2) k)
  case atStart => exact ⟨0, by omega, rfl, .inl ⟨rfl, rfl⟩, ((((Below.refl _ _).alloc (Nat.le_refl _) _).alloc (by simp) _).alloc (by simp <;> omega) _), blk_alloc (blk_new' _ (by simp)) _, blk_new' _ (by simp), .inl ⟨rfl, blk_alloc (blk_alloc (blk_new _ _) _) _⟩⟩
  case round =>
    obtain ⟨k, hk, hgk, hsl, hm⟩ := hrel
    obtain ⟨hb, hns, hws, hm⟩ := hm
    rcases hsl with ⟨rfl, rfl⟩ | ⟨rfl, rfl⟩ | ⟨rfl, rfl⟩
    · have h0 := hm.resolve_right (by rintro (⟨e, _⟩ | ⟨e, _⟩) <;> omega)
      clear hm
      obtain ⟨e0, hrs⟩ := h0
      clear e0
      have y0 : wr.cell? ⟨w.heap.size, 0, none⟩ = some (.pointer none) := blk_cell hrs 0
      have z0 : wr.frozen? ⟨w.heap.size, 0, none⟩ = false := blk_frozen hrs 0
      have hw1 : IntKind.i64.wrap (items.tmod 3 + 3) = items.tmod 3 + 3 := IntWalk.i64_in _ (by have := HI.out; omega)
      have hw2 : IntKind.i64.wrap (asks.tmod 2 + 2) = asks.tmod 2 + 2 := IntWalk.i64_in _ (by have := HA.out; omega)
      have zz : w.heap.size < wr.heap.size := blk_lt hrs
      have H0 := Lib.hid (And.intro hb (And.intro hns (And.intro hws hrs)))
      clear hb hns hws hrs
      go_wp2_with fail
      clear hw1 hw2 y0 z0
      refine (rnew_any ((items.tmod 3 + 3).tmod 3) ((asks.tmod 2 + 2).tmod 2) HI.out.1 (by have := HI.out; omega) HA.out.1 (by have := HA.out; omega) _).mono ?_
      rintro e w1 ⟨rfl, hb1, hr1⟩
      obtain ⟨hb, hns, hws, hrs⟩ := H0.out
      have hrs1 := blk_below hrs hb1 zz
      have y0 : w1.cell? ⟨w.heap.size, 0, none⟩ = some (.pointer none) := blk_cell hrs1 0
      have z0 : w1.frozen? ⟨w.heap.size, 0, none⟩ = false := blk_frozen hrs1 0
      have zr : w.heap.size < w1.heap.size := blk_lt hrs1
      have hns1 := blk_set_other (blk_below hns hb1 (blk_lt hns)) (a := ⟨w.heap.size, 0, none⟩) (.pointer (some ⟨wr.heap.size + 1, 0, none⟩)) (by simp)
      have hws1 := blk_set_other (blk_below hws hb1 (blk_lt hws)) (a := ⟨w.heap.size, 0, none⟩) (.pointer (some ⟨wr.heap.size + 1, 0, none⟩)) (by simp)
      have hrs2 := blk_set_same hrs1 0 (.pointer (some ⟨wr.heap.size + 1, 0, none⟩))
      have hbb := (hb.trans (hb1.mono hb.size)).setCell (p := (⟨w.heap.size, 0, none⟩ : Addr)) (Nat.le_refl _) (.pointer (some ⟨wr.heap.size + 1, 0, none⟩))
      have hu : Upd w1.heap.size (fun j => j = w.heap.size) w1 (w1.setCell ⟨w.heap.size, 0, none⟩ (.pointer (some ⟨wr.heap.size + 1, 0, none⟩))) := Upd.setCell (ks := fun j => j = w.heap.size) (Upd.refl _ _ _) (a := (⟨w.heap.size, 0, none⟩ : Addr)) (.inl rfl) _
      have hkind : ∀ j, j = w.heap.size → ∃ cs T fz, w1.heap[j]? = some (.cells cs T fz) ∧ T ≠ 79 ∧ T ≠ 9 := by
        rintro j rfl
        exact ⟨_, _, _, hrs1, by decide, by decide⟩
      have hr2 := hr1.upd2 hu hkind

      have H1 := Lib.hid (And.intro hbb (And.intro hns1 (And.intro hws1 (And.intro hrs2 hr2))))
      clear hb hns hws hrs hrs1 hns1 hws1 hrs2 hbb hu hkind hr1 hr2 hb1
      go_wp2_with fail
      refine (wakes16_any _ (HT.out.later H1.out.1)).mono ?_
      rintro e w2 ⟨rfl, hb2⟩
      go_wp2_with fail
      obtain ⟨hbb, hns1, hws1, hrs2, hr2⟩ := H1.out
      have hsz := hb2.size
      go_roundg 1
      case measure => omega
      case rel =>
        refine ⟨1, by omega, by omega, .inr (.inl ⟨rfl, by first | rfl | go_num⟩), ?_⟩
        exact ⟨hbb.trans (hb2.mono hbb.size), blk_below hns1 hb2 (blk_lt hns1), blk_below hws1 hb2 (blk_lt hws1), .inr (.inl ⟨rfl, wr.heap.size + 1, wr.heap.size, .map [], blk_below hrs2 hb2 (blk_lt hrs2), (hr2.lower (by omega)).below hb2⟩)⟩
    · have h1 := (hm.resolve_left (by rintro ⟨e, _⟩; omega)).resolve_right (by rintro ⟨e, _⟩; omega)
      clear hm
      obtain ⟨e1, rb0, mb0, D0, hrs, hro⟩ := h1
      clear e1
      have y0 : wr.cell? ⟨w.heap.size, 1, none⟩ = some (.pointer none) := blk_cell hrs 1
      have z0 : wr.frozen? ⟨w.heap.size, 1, none⟩ = false := blk_frozen hrs 1
      have hw1 : IntKind.i64.wrap (items.tmod 3 + 3) = items.tmod 3 + 3 := IntWalk.i64_in _ (by have := HI.out; omega)
      have hw2 : IntKind.i64.wrap (asks.tmod 2 + 2) = asks.tmod 2 + 2 := IntWalk.i64_in _ (by have := HA.out; omega)
      have zz : w.heap.size < wr.heap.size := blk_lt hrs
      have H0 := Lib.hid (And.intro hb (And.intro hns (And.intro hws (And.intro hrs hro))))
      clear hb hns hws hrs hro
      go_wp2_with fail
      clear hw1 hw2 y0 z0
      refine (rnew_any ((items.tmod 3 + 3).tmod 3) ((asks.tmod 2 + 2).tmod 2) HI.out.1 (by have := HI.out; omega) HA.out.1 (by have := HA.out; omega) _).mono ?_
      rintro e w1 ⟨rfl, hb1, hr1⟩
      obtain ⟨hb, hns, hws, hrs, hro⟩ := H0.out
      have hrs1 := blk_below hrs hb1 zz
      have y0 : w1.cell? ⟨w.heap.size, 1, none⟩ = some (.pointer none) := blk_cell hrs1 1
      have z0 : w1.frozen? ⟨w.heap.size, 1, none⟩ = false := blk_frozen hrs1 1
      have zr : w.heap.size < w1.heap.size := blk_lt hrs1
      have hns1 := blk_set_other (blk_below hns hb1 (blk_lt hns)) (a := ⟨w.heap.size, 1, none⟩) (.pointer (some ⟨wr.heap.size + 1, 0, none⟩)) (by simp)
      have hws1 := blk_set_other (blk_below hws hb1 (blk_lt hws)) (a := ⟨w.heap.size, 1, none⟩) (.pointer (some ⟨wr.heap.size + 1, 0, none⟩)) (by simp)
      have hrs2 := blk_set_same hrs1 1 (.pointer (some ⟨wr.heap.size + 1, 0, none⟩))
      have hbb := (hb.trans (hb1.mono hb.size)).setCell (p := (⟨w.heap.size, 1, none⟩ : Addr)) (Nat.le_refl _) (.pointer (some ⟨wr.heap.size + 1, 0, none⟩))
      have hu : Upd w1.heap.size (fun j => j = w.heap.size) w1 (w1.setCell ⟨w.heap.size, 1, none⟩ (.pointer (some ⟨wr.heap.size + 1, 0, none⟩))) := Upd.setCell (ks := fun j => j = w.heap.size) (Upd.refl _ _ _) (a := (⟨w.heap.size, 1, none⟩ : Addr)) (.inl rfl) _
      have hkind : ∀ j, j = w.heap.size → ∃ cs T fz, w1.heap[j]? = some (.cells cs T fz) ∧ T ≠ 79 ∧ T ≠ 9 := by
        rintro j rfl
        exact ⟨_, _, _, hrs1, by decide, by decide⟩
      have hr2 := hr1.upd2 hu hkind
      have hro2 := (hro.below hb1).upd2 hu hkind
      have H1 := Lib.hid (And.intro hbb (And.intro hns1 (And.intro hws1 (And.intro hrs2 (And.intro hr2 hro2)))))
      clear hb hns hws hrs hro hro2 hrs1 hns1 hws1 hrs2 hbb hu hkind hr1 hr2 hb1
      go_wp2_with fail
      refine (wakes16_any _ (HT.out.later H1.out.1)).mono ?_
      rintro e w2 ⟨rfl, hb2⟩
      go_wp2_with fail
      obtain ⟨hbb, hns1, hws1, hrs2, hr2, hro2⟩ := H1.out
      have hsz := hb2.size
      go_roundg 0
      case measure => omega
      case rel =>
        refine ⟨2, by omega, by omega, .inr (.inr ⟨rfl, by first | rfl | go_num⟩), ?_⟩
        have hlt := (H0.out.2.2.2.2).lt
        refine ⟨hbb.trans (hb2.mono hbb.size), blk_below hns1 hb2 (blk_lt hns1), blk_below hws1 hb2 (blk_lt hws1), .inr (.inr ⟨rfl, rb0, mb0, wr.heap.size + 1, wr.heap.size, ?_⟩)⟩
        exact {
          below := hbb.trans (hb2.mono hbb.size)
          rs := blk_below hrs2 hb2 (blk_lt hrs2)
          ns := blk_below hns1 hb2 (blk_lt hns1)
          ws := blk_below hws1 hb2 (blk_lt hws1)
          r0 := ⟨_, hro2.below hb2⟩
          r1 := ⟨_, (hr2.lower (by omega)).below hb2⟩
          s0 := Seq.nil _ _ _ _
          s1 := Seq.nil _ _ _ _
          base := Nat.le_refl _
          far := ⟨by omega, by omega, by omega, by omega⟩
          two := .inl rfl }
    · obtain ⟨_, rb0, mb0, rb1, mb1, hM⟩ := (hm.resolve_left (by rintro ⟨e, _⟩; omega)).resolve_left (by rintro ⟨e, _⟩; omega)
      clear hm hb hns hws
      obtain ⟨wo, rfl⟩ : ∃ wo : World, wo = wr := ⟨_, rfl⟩
      have hstart : PRel w L (6 * min L 150 + 1) (.int .i64 0) wo := ⟨0, rb0, mb0, rb1, mb1, _, _, _, _, [], [], rfl, hM, PairInv.start _ _ _ _ _ _, ⟨by simp [wt], by simp [wt]; omega⟩, by simp⟩
      have HSTART := Lib.hid hstart
      clear hM hstart
      go_wp2_with fail
      go_loopg [11] (6 * min L 150 + 1) (fun g s wx => PRel w L g s wx)
      case atStart => exact HSTART.out
      case round =>
        clear HSTART
        obtain ⟨k, rb0, mb0, rb1, mb1, v0, v1, R, S, q0, q1, rfl, hm, hi, hg, hv⟩ := hrel
        obtain ⟨A0, c0, rfl⟩ := hm.s0.shape
        obtain ⟨A1, c1, rfl⟩ := hm.s1.shape
        have hk1 : k ≤ 901 := by omega
        have hki : (0 : Int) ≤ (k : Int) := by omega
        have z0 := blk_lt hm.rs
        have z1 := blk_lt hm.ns
        have z2 := blk_lt hm.ws
        have y0 : wr.cell? ⟨w.heap.size + 2, 0, none⟩ = some (.slice A0 q0.length c0) := blk_cell hm.ws 0
        have y1 : wr.cell? ⟨w.heap.size + 2, 1, none⟩ = some (.slice A1 q1.length c1) := blk_cell hm.ws 1
        have hl0 : q0.length ≤ 901 := by have := len_le_wt q0; omega
        have hl1 : q1.length ≤ 901 := by have := len_le_wt q1; omega
        have HM := Lib.hid hm
        have HG := Lib.hid hg
        have HI := Lib.hid hi
        have HV := Lib.hid hv
        clear hm hi hg hv
        obtain ⟨go, hgo⟩ : ∃ go : Bool, go = (decide (k < L ∧ k < 150) || decide (0 < q0.length + q1.length)) := ⟨_, rfl⟩
        have HGO := Lib.hid hgo
        clear hgo
        go_upto_region 11 with fail
        go_cut [69] (fun s69 wx => s69 = .bool go ∧ wr = wx)
        case first =>
          by_cases hkL : k < L
          · have t1 : decide (k < L) = true := by simpa using hkL
            by_cases hk3 : k < 150
            · have t2 : decide ((k : Int) < 150) = true := by simp; omega
              have e : go = true := by rw [HGO.out]; simp [hkL, hk3]
              subst e
              go_wp2_with fail
              go_meet
              exact ⟨rfl, rfl⟩
            · have t2 : decide ((k : Int) < 150) = false := by simp; omega
              have e : go = decide (0 < q0.length + q1.length) := by rw [HGO.out]; simp [hkL, hk3]
              subst e
              go_wp2_with fail
              all_goals (go_meet; exact ⟨by simp; omega, rfl⟩)
          · have t1 : decide (k < L) = false := by simpa using hkL
            have e : go = decide (0 < q0.length + q1.length) := by rw [HGO.out]; simp [hkL]
            subst e
            go_wp2_with fail
            all_goals (go_meet; exact ⟨by simp; omega, rfl⟩)
        case rest =>
          obtain ⟨rfl, rfl⟩ := hcut
          cases go with
          | true =>
            obtain ⟨kb, hkb⟩ : ∃ kb, bits .and .i64 (k : Int) 1 = kb := ⟨_, rfl⟩
            obtain ⟨ek, dk, hed1, hed2⟩ : ∃ ek dk : Int, (k < L ∧ k < 150 → ek = E k ∧ dk = D k) ∧ (¬ (k < L ∧ k < 150) → ek = kb ∧ dk = 0) := by
              by_cases h : k < L ∧ k < 150
              · exact ⟨E k, D k, fun _ => ⟨rfl, rfl⟩, fun h' => absurd h h'⟩
              · exact ⟨kb, 0, fun h' => absurd h' h, fun _ => ⟨rfl, rfl⟩⟩
            have HE1 := Lib.hid hed1
            have HE2 := Lib.hid hed2
            clear hed1 hed2
            obtain ⟨act, hac⟩ : ∃ act : Bool, act = decide (k < L ∧ k < 150) := ⟨_, rfl⟩
            have HAC := Lib.hid hac
            clear hac
            go_upto_region 14 with fail
            go_cut [82] (fun s82 wx => s82 = .bool act ∧ wr.alloc (.cells #[.int .i64 kb, .int .i64 0] 33) = wx)
            case first =>
              by_cases hkL : k < L
              · have t1 : decide (k < L) = true := by simpa using hkL
                by_cases hk3 : k < 150
                · have t2 : decide ((k : Int) < 150) = true := by simp; omega
                  have e : act = true := by rw [HAC.out]; simp [hkL, hk3]
                  subst e
                  go_wp2_with fail
                  go_meet
                  exact ⟨rfl, rfl⟩
                · have t2 : decide ((k : Int) < 150) = false := by simp; omega
                  have e : act = false := by rw [HAC.out]; simp [hkL, hk3]
                  subst e
                  go_wp2_with fail
                  go_meet
                  exact ⟨rfl, rfl⟩
              · have t1 : decide (k < L) = false := by simpa using hkL
                have e : act = false := by rw [HAC.out]; simp [hkL]
                subst e
                go_wp2_with fail
                go_meet
                exact ⟨rfl, rfl⟩
            case rest =>
            obtain ⟨rfl, rfl⟩ := hcut
            go_upto_if 82 with fail
            go_cut [86] (fun s86 wx => wr.alloc (.cells #[.int .i64 ek, .int .i64 dk] 33) = wx)
            case first =>
              cases act with
              | true =>
                obtain ⟨hkL, hk3⟩ : k < L ∧ k < 150 := by simpa using HAC.out.symm
                obtain ⟨ab, ao, rfl, hab, hsteps⟩ := HST.out.at_ (by omega)
                have hb := HM.out.below
                have s0 : wr.cell? ⟨ab, ao + k * 2, none⟩ = some (.int .i64 (E k)) := (hb.cell hab).trans (hsteps k hkL).1
                have s1 : wr.cell? ⟨ab, ao + k * 2 + 1, none⟩ = some (.int .i64 (D k)) := (hb.cell hab).trans (hsteps k hkL).2
                have zab : ab < wr.heap.size := by have := hb.size; omega
                clear hsteps hb
                have hkL' : (k : Int) < (L : Int) := by omega
                obtain ⟨e1, e2⟩ := HE1.out ⟨hkL, hk3⟩
                subst e1
                subst e2
                go_wp2_with fail
                go_meet
                rfl
              | false =>
                obtain ⟨e1, e2⟩ := HE2.out (by simpa using HAC.out.symm)
                subst e1
                subst e2
                go_wp2_with fail
                go_meet
                rfl
            case rest =>
            have HKB := Lib.hid hkb
            clear hkb
            have hem : ek % 2 = 0 ∨ ek % 2 = 1 := by omega
            have HNO := Lib.hid (show ¬ (k < L ∧ k < 150) → (k % 2 : Int) = ek % 2 ∧ 0 < q0.length + q1.length from fun h => by
              obtain ⟨e1, _⟩ := HE2.out h
              have e2 := HKB.out
              rw [and_one_i64] at e2
              have e3 := HGO.out
              simp only [h, decide_false, Bool.false_or] at e3
              exact ⟨by omega, by simpa using e3.symm⟩)
            have HAD := Lib.hid (show 1 ≤ dk → k < L ∧ k < 150 from fun h => Classical.byContradiction fun h' => by have := (HE2.out h').2; omega)
            clear HE1 HE2 HKB HGO HAC
            clear y0 y1
            have zb : wr.heap.size < (wr.alloc (.cells #[.int .i64 ek, .int .i64 dk] 33)).heap.size := by simp
            have hbox : wc.heap[wr.heap.size]? = some (.cells #[.int .i64 ek, .int .i64 dk] 33) := by rw [← hcut]; exact blk_new wr _
            have hpm : PMem w wc w.heap.size w.heap.size rb0 mb0 rb1 mb1 (.slice A0 q0.length c0) (.slice A1 q1.length c1) R S q0 q1 := by rw [← hcut]; exact HM.out.alloc _
            clear hcut HM zb z0 z1 z2
            generalize wr.heap.size = sb at *
            have HM := Lib.hid (And.intro hpm hbox)
            have HT2 := Lib.hid (HT.out.later hpm.below)
            have s0 : wc.cell? ⟨sb, 0, none⟩ = some (.int .i64 ek) := blk_cell hbox 0
            have s1 : wc.cell? ⟨sb, 1, none⟩ = some (.int .i64 dk) := blk_cell hbox 1
            have zs := blk_lt hbox
            have z0 := blk_lt hpm.rs
            have z1 := blk_lt hpm.ns
            have z2 := blk_lt hpm.ws
            clear hpm hbox
            rcases hem with he | he
            · have hE : bits .and .i64 ek 1 = 0 := by rw [and_one_i64]; exact he
              have HNO := Lib.hid (show ¬ (k < L ∧ k < 150) → k % 2 = 0 ∧ 0 < q0.length + q1.length from fun h => ⟨by have := (HNO.out h).1; omega, (HNO.out h).2⟩)
              have HEE := Lib.hid he
              clear he
              by_cases hD : 1 ≤ dk
              · have hkk := HAD.out hD
                apply pw_a0 (q0 := q0) (q1 := q1)
                all_goals assumption
              · have t3 : decide (1 ≤ dk) = false := by simpa using hD
                clear hD
                apply pw_h0 (q0 := q0) (q1 := q1)
                all_goals assumption
            · have hE : bits .and .i64 ek 1 = 1 := by rw [and_one_i64]; exact he
              have HNO := Lib.hid (show ¬ (k < L ∧ k < 150) → k % 2 = 1 ∧ 0 < q0.length + q1.length from fun h => ⟨by have := (HNO.out h).1; omega, (HNO.out h).2⟩)
              have HEE := Lib.hid he
              clear he
              by_cases hD : 1 ≤ dk
              · have hkk := HAD.out hD
                apply pw_a1 (q0 := q0) (q1 := q1)
                all_goals assumption
              · have t3 : decide (1 ≤ dk) = false := by simpa using hD
                clear hD
                apply pw_h1 (q0 := q0) (q1 := q1)
                all_goals assumption
          | false =>
            as_aux_lemma =>
              have e := HGO.out
              simp at e
              obtain ⟨_, hq0, hq1⟩ := e
              subst hq0
              subst hq1
              have hd := HI.out.inv
              obtain ⟨e1, e2⟩ := hd.da.done
              obtain ⟨e3, e4⟩ := hd.db.done
              have b0 : wr.cell? ⟨w.heap.size, 0, none⟩ = some (.pointer (some ⟨rb0, 0, none⟩)) := blk_cell HM.out.rs 0
              have b1 : wr.cell? ⟨w.heap.size, 1, none⟩ = some (.pointer (some ⟨rb1, 0, none⟩)) := blk_cell HM.out.rs 1
              have hu0 := half_entry R textbob ⟨#[]⟩
              have hu1 := half_entry S nameAnn ⟨#[]⟩
              obtain ⟨D0, hr0⟩ := HM.out.r0
              obtain ⟨D1, hr1⟩ := HM.out.r1
              have C0 := rget_any hr0 (HT.out.later HM.out.below) textbob (by decide)
              have C1 := fun (W : World) (hb : Below wr.heap.size wr W) => rget_any (hr1.below hb) (HT.out.later (HM.out.below.trans (hb.mono HM.out.below.size))) nameAnn (by decide)
              rw [bob_local.1] at C0
              rw [ann_local.1] at C1
              obtain ⟨ea, hea⟩ : ∃ ea, (R.get textbob).getD (Ent.new ⟨#[]⟩) = ea := ⟨_, rfl⟩
              obtain ⟨eb, heb⟩ : ∃ eb, (S.get nameAnn).getD (Ent.new ⟨#[]⟩) = eb := ⟨_, rfl⟩
              rw [hea] at C0 hu0
              rw [heb] at C1 hu1
              rw [← hu0, ← hu1] at e1 e2 e3 e4
              obtain ⟨ca, ka, na, ga, ⟨o, n, i, m⟩⟩ := ea
              obtain ⟨cb, kb', nb, gb, ⟨bo, bn, bi, bm⟩⟩ := eb
              simp only at e1 e2 e3 e4
              subst e1
              subst e2
              subst e3
              subst e4
              have HC0 := Lib.hid C0
              have HC1 := Lib.hid C1
              have HB := Lib.hid HM.out.below
              have zr := blk_lt HM.out.rs
              clear C0 C1 hea heb hu0 hu1 hr0 hr1 hd y0 y1 HG HGO HM HI HV z0 z1 z2
              go_wp2_with fail
              refine HC0.out.mono ?_
              rintro e w1 ⟨⟨Aa, xa, rfl, _⟩, hb1⟩
              have d1 : w1.cell? ⟨w.heap.size, 1, none⟩ = some (.pointer (some ⟨rb1, 0, none⟩)) := (hb1.cell zr).trans b1
              have z1 : w.heap.size < w1.heap.size := Nat.lt_of_lt_of_le zr hb1.size
              have HX := Lib.hid hb1
              clear hb1 HC0
              go_wp2_with fail
              refine (HC1.out _ (HX.out.alloc HX.out.size _)).mono ?_
              rintro e w2 ⟨⟨Ab, xb, rfl, _⟩, hb2⟩
              have hbx := blk_below (blk_new w1 (.cells #[.string ca, .bool ka, .string na, .slice Aa ga.length xa, .int .i64 o, .int .u64 n, .int .i64 bo, .int .u64 bn] 47)) hb2 (by simp)
              have p4 : w2.cell? ⟨w1.heap.size, 4, none⟩ = some (.int .i64 o) := blk_cell hbx 4
              have p5 : w2.cell? ⟨w1.heap.size, 5, none⟩ = some (.int .u64 n) := blk_cell hbx 5
              have p6 : w2.cell? ⟨w1.heap.size, 6, none⟩ = some (.int .i64 bo) := blk_cell hbx 6
              have p7 : w2.cell? ⟨w1.heap.size, 7, none⟩ = some (.int .u64 bn) := blk_cell hbx 7
              have zz : w1.heap.size < w2.heap.size := blk_lt hbx
              have zne : ¬ w1.heap.size = w2.heap.size := by omega
              have HF := Lib.hid (HB.out.trans ((HX.out.trans (((Below.refl w1.heap.size w1).alloc (Nat.le_refl _) _ |>.trans (hb2.mono (by simp))).mono HX.out.size)).mono HB.out.size))
              clear hbx HX hb2 HC1 HB
              go_wp2_with fail
              go_ret
              exact ⟨rfl, HF.out.alloc (Nat.le_trans HF.out.size (Nat.le_refl _)) _⟩
end Go.Proofs.YthbjcihdlhkboaaDoor
