/- For every list of texts, every rule of all at its front and every question PrivacyFront answers true, and its argument is left as it was: no condition; the library's two tables hold what the program's text lays, tied by the card. -/
import Derived.Test.YthbjcihdlhkboaaDoorRows
import Derived.Test.YthbjcihdlhkboaaDoorTie
import Derived.Test.YthbjcihdlhkboaaDoorCards
import Derived.Test.YthbjcihdlhkboaaDoorFr1
import Derived.Test.YthbjcihdlhkboaaDoorRow
import Derived.SevenTiedAt
namespace Go.Proofs.YthbjcihdlhkboaaDoor
set_option linter.unusedSimpArgs false
set_option linter.unusedVariables false
open Go.RowKit Go.Maps Go.Shelf Go.Lib Go.ChangeShapes Go.WideShapes Go.ChangeAt

set_option maxRecDepth 100000 in
theorem front_arg {H : Type} {enc : TypeId × Value → H} {W : World} {d : DataW H} {p : List MemPlace} {base : Nat} {v : Value} (hw : Value.okWide Tryd.prog W .any base 61 v)
    (h : DataW.Trod enc Tryd.prog W 0 (fun _ => true) true 61 v d p) :
    ∃ tv allow inn q0 q1 q2 q3 c gv ts gs s, v = .agg #[tv, .bool allow, .bool inn, .int .i64 q0, .string q1, q2, .bool q3, .string c, gv, .string s] ∧ (∃ A n k, q2 = .slice A n k) ∧ Strs W tv ts ∧ Strs W gv gs := by
  simp only [Value.okWide, Tryd.underlying61] at hw
  obtain ⟨cs, rfl, hs, hr⟩ := hw
  have hts : Tryd.prog.cellTypes Tryd.prog.depth 61 = some [43, 4, 4, 3, 9, 43, 4, 9, 43, 9] := by kernel_rfl
  have hsz : Tryd.prog.cellsOf 61 = 10 := by kernel_rfl
  rw [hsz] at hs
  have hc := row_okWide hts (by simpa using hs) hr
  match cs, hs with
  | ⟨[c0, c1, c2, c3, c4, c5, c6, c7, c8, c9]⟩, _ =>
    obtain ⟨n1, rfl⟩ := cell_bool Tryd.underlying4 (hc 1 c1 4 rfl rfl)
    obtain ⟨n2, rfl⟩ := cell_bool Tryd.underlying4 (hc 2 c2 4 rfl rfl)
    obtain ⟨n3, rfl, _⟩ := cell_int Tryd.underlying3 (hc 3 c3 3 rfl rfl)
    obtain ⟨n4, rfl⟩ := cell_string Tryd.underlying9 (hc 4 c4 9 rfl rfl)
    have s5 := cell_slice Tryd.underlying43 (hc 5 c5 43 rfl rfl)
    obtain ⟨n6, rfl⟩ := cell_bool Tryd.underlying4 (hc 6 c6 4 rfl rfl)
    obtain ⟨n7, rfl⟩ := cell_string Tryd.underlying9 (hc 7 c7 9 rfl rfl)
    obtain ⟨n9, rfl⟩ := cell_string Tryd.underlying9 (hc 9 c9 9 rfl rfl)
    obtain ⟨fuel, hf⟩ := h
    obtain ⟨xs, n', _, _, _, hxl, hfs⟩ := DataW.trod_struct Tryd.underlying61 hf
    have e1 : Tryd.prog.cellsOf 43 = 1 := by kernel_rfl
    have e7 : Tryd.prog.cellsOf 52 = 7 := by kernel_rfl
    have g0 := hfs 0 _ rfl
    change DataW.trod _ _ _ _ _ _ _ 43 (List.take (Tryd.prog.cellsOf 43) _) = _ at g0
    rw [e1] at g0
    obtain ⟨y0, hy0⟩ : ∃ y, xs[0]? = some y := ⟨xs[0]'(by rw [hxl]; decide), List.getElem?_eq_getElem _⟩
    rw [hy0] at g0
    obtain ⟨ts, hts⟩ := strs_of_trod (v := c0) g0
    have g3 := hfs 3 _ rfl
    change DataW.trod _ _ _ _ _ _ _ 52 (List.take (Tryd.prog.cellsOf 52) _) = _ at g3
    rw [e7] at g3
    obtain ⟨y3, hy3⟩ : ∃ y, xs[3]? = some y := ⟨xs[3]'(by rw [hxl]; decide), List.getElem?_eq_getElem _⟩
    rw [hy3] at g3
    obtain ⟨zs, n'', _, _, _, hzl, hgs⟩ := DataW.trod_struct Tryd.underlying52 g3
    have g5 := hgs 5 _ rfl
    change DataW.trod _ _ _ _ _ _ _ 43 (List.take (Tryd.prog.cellsOf 43) _) = _ at g5
    rw [e1] at g5
    obtain ⟨y5, hy5⟩ : ∃ y, zs[5]? = some y := ⟨zs[5]'(by rw [hzl]; decide), List.getElem?_eq_getElem _⟩
    rw [hy5] at g5
    obtain ⟨us, hus⟩ := strs_of_trod (v := c8) g5
    exact ⟨c0, n1, n2, n3, n4, c5, n6, n7, c8, ts, us, n9, rfl, s5, hts, hus⟩

set_option maxRecDepth 100000 in
theorem front_lifted (os : Os) (started : os.Started) (H : Type) (enc : TypeId × Value → H) :
    ReturnsInHanded {} Tryd.checked os 5 .any (fun w args => (Rows.privacyFrontSpec.pre enc Tryd.prog Tryd.f5 [] false w args ∧ laidMetH Tryd.prog laidHere w) ∧ sizedMet enc Tryd.prog Tryd.f5 (OpenSpec.ofChange Rows.privacyFrontSpec) false w args)
      (Rows.privacyFrontSpec.post enc Tryd.prog Tryd.f5 false true false false) := by
  refine handed_laid (C := Tryd.checked) (X := fun w _ => laidMetH Tryd.prog laidHere w) (fun _ _ _ hh h => h.of_heap hh) rows_own started (by kernel_rfl) Tryd.func5
    (ChangeSpec.witness_shaped (enc := enc) (C := Tryd.checked) (os := os) (X := fun w _ => laidMetH Tryd.prog laidHere w) false (World.laidAll Tryd.prog os laidHere) #[.agg #[.slice none 0 0, .bool false, .bool false, .int .i64 0, .string ⟨#[]⟩, .slice none 0 0, .bool false, .string ⟨#[]⟩, .slice none 0 0, .string ⟨#[]⟩]] 8 (World.laidAll_os _ _ _)
      (World.shaped_of_ZipB (by kernel_rfl) (by kernel_rfl)) (by kernel_rfl) (by kernel_rfl) (by kernel_rfl)
      (by rw [MakeChecks.laidMetH_plain _ _ _ (by kernel_rfl)]; exact laidMet_laidAll _ (by kernel_rfl) (by kernel_rfl))) ?_
  intro W base args ds gs before hval0 hW hL hsh
  have hval : ∀ (j : Nat) t v, Tryd.f5.params[j]? = some t → args[j]? = some v → Value.okWide Tryd.prog W .any base t v := hval0
  have hA : ∃ p, DataW.TrodAll enc Tryd.prog W 0 (fun _ => true) true Tryd.f5.params.toList args.toList ds p := by obtain ⟨p, _, h, _⟩ := hW; exact ⟨p, h⟩
  obtain ⟨p, hA⟩ := hA
  rw [Tryd.params5] at hA hval
  obtain ⟨v0, d0, rfl, rfl, h0⟩ := trodAll_one hA
  have hg : gs = [] := by obtain ⟨_, q, _, h, _⟩ := hW; exact (trodVars_none h).1
  subst hg
  have hT := tabs_of_laid hL hsh
  obtain ⟨v, allow, inn, q0, q1, q2, q3, c, gv, ts, gs, s, rfl, hq2, hts, hgs⟩ := front_arg (hval 0 61 v0 rfl rfl) h0
  refine (front_any W hT v ts hts allow inn q0 q1 q2 q3 c gv gs hgs s hq2).mono fun e W' ⟨he, hb⟩ => ?_
  subst he
  exact ⟨_, rfl, law_post rows_laidOut rfl Tryd.underlying4 (by rw [Tryd.params5]; intro t ht; simp at ht; subst ht; exact ⟨by kernel_rfl, of_decide_eq_true (by kernel_rfl)⟩) rfl ⟨rfl, rfl, rfl⟩ hW hb⟩

theorem front_row : Rows.PrivacyFrontSaid :=
  OpenClaim.holds_of_wide 5 Tryd.f5 rfl rfl rfl rfl rfl rfl rfl ⟨rfl, rfl, rfl, rfl, rfl⟩ rfl rfl rfl rfl rfl (by kernel_rfl) Tryd.func5 (by kernel_rfl)
    (of_decide_eq_true (by kernel_rfl)) (by unfold Func.isWrapper; first | (rw [if_pos (by decide +kernel)]; kernel_rfl) | (rw [if_neg (by decide +kernel)]; exact ⟨rfl, rfl⟩))
    (fun os started H enc _ => front_lifted os started H enc)

theorem front_holds : Rows.PrivacyFrontCardSaid :=
  Claim7.holds_tied_plain_at .later [] [.data, .pinned] true (true, "db5b5d2775afa7222a4ad4f05983d2473fa7c7e1d17db406324c584551aee731") true front_row (fun _ h => by cases h) (by kernel_rfl) (fun _ h => by cases h) privacyFront_row_tie rfl ⟨rfl, rfl⟩ (by kernel_rfl) rfl
    (fun f fn hf hfn => by
      obtain rfl : f = 5 := Option.some.inj ((show Tryd.prog.funcNamed "roost/roostlaw17.PrivacyFront" = some 5 by kernel_rfl).symm.trans hf) |>.symm
      obtain rfl : fn = Tryd.f5 := (Option.some.inj (Tryd.func5.symm.trans hfn)).symm
      exact ⟨by kernel_rfl, fun j t ht => by
        rw [Tryd.params5] at ht
        have hm : t ∈ [61] := by simpa using Array.mem_of_getElem? ht
        have hall : ([61].all fun u => !Tryd.prog.wantsStandIn u) = true := by kernel_rfl
        exact (show Tryd.prog.wantsStandIn t = false by simpa using List.all_eq_true.1 hall t hm)⟩)
    (by kernel_rfl)
#print axioms front_holds
end Go.Proofs.YthbjcihdlhkboaaDoor
