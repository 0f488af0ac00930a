/- For every two lists of texts and every question PrivacyAll answers true, and its arguments are left as they were: no condition; the library's two tables hold what the program's text lays, tied by the card. -/
import Derived.Test.YthbjcihdlhkboaaDoorRows
import Derived.Test.YthbjcihdlhkboaaDoorTie
import Derived.Test.YthbjcihdlhkboaaDoorCards
import Derived.Test.YthbjcihdlhkboaaDoorAl1
import Derived.Test.YthbjcihdlhkboaaDoorRow
import Derived.SevenTiedAt
namespace Go.Proofs.YthbjcihdlhkboaaDoor
set_option linter.unusedSimpArgs false
set_option linter.unusedVariables false
open Go.RowKit Go.Maps Go.Shelf Go.Lib Go.ChangeShapes Go.WideShapes Go.ChangeAt

set_option maxRecDepth 100000 in
theorem privall_lifted (os : Os) (started : os.Started) (H : Type) (enc : TypeId × Value → H) :
    ReturnsInHanded {} Tryd.checked os 4 .any (fun w args => (Rows.privacyAllSpec.pre enc Tryd.prog Tryd.f4 [] false w args ∧ laidMetH Tryd.prog laidHere w) ∧ sizedMet enc Tryd.prog Tryd.f4 (OpenSpec.ofChange Rows.privacyAllSpec) false w args)
      (Rows.privacyAllSpec.post enc Tryd.prog Tryd.f4 false true false false) := by
  refine handed_laid (C := Tryd.checked) (X := fun w _ => laidMetH Tryd.prog laidHere w) (fun _ _ _ hh h => h.of_heap hh) rows_own started (by kernel_rfl) Tryd.func4
    (ChangeSpec.witness_shaped (enc := enc) (C := Tryd.checked) (os := os) (X := fun w _ => laidMetH Tryd.prog laidHere w) false (World.laidAll Tryd.prog os laidHere) #[.slice none 0 0, .slice none 0 0, .agg #[.int .i64 0, .string ⟨#[]⟩, .slice none 0 0, .bool false, .string ⟨#[]⟩, .slice none 0 0, .string ⟨#[]⟩]] 8 (World.laidAll_os _ _ _)
      (World.shaped_of_ZipB (by kernel_rfl) (by kernel_rfl)) (by kernel_rfl) (by kernel_rfl) (by kernel_rfl)
      (by rw [MakeChecks.laidMetH_plain _ _ _ (by kernel_rfl)]; exact laidMet_laidAll _ (by kernel_rfl) (by kernel_rfl))) ?_
  intro W base args ds gs before hval0 hW hL hsh
  have hval : ∀ (j : Nat) t v, Tryd.f4.params[j]? = some t → args[j]? = some v → Value.okWide Tryd.prog W .any base t v := hval0
  have hA : ∃ p, DataW.TrodAll enc Tryd.prog W 0 (fun _ => true) true Tryd.f4.params.toList args.toList ds p := by obtain ⟨p, _, h, _⟩ := hW; exact ⟨p, h⟩
  obtain ⟨p, hA⟩ := hA
  rw [Tryd.params4] at hA hval
  obtain ⟨v0, v1, v2, d0, d1, d2, _, _, _, rfl, rfl, _, h0, h1, h2⟩ := trodAll_three hA
  have hg : gs = [] := by obtain ⟨_, q, _, h, _⟩ := hW; exact (trodVars_none h).1
  subst hg
  have hT := tabs_of_laid hL hsh
  obtain ⟨ts, hts⟩ := strs_arg (hval 0 43 v0 rfl rfl) h0
  obtain ⟨ts2, hts2⟩ := strs_arg (hval 1 43 v1 rfl rfl) h1
  obtain ⟨q0, q1, q2, q3, c, gv, gs, s, rfl, hq2, hgs⟩ := op_arg (hval 2 52 v2 rfl rfl) h2
  refine (privall_any W hT v0 ts hts v1 ts2 hts2 q0 q1 q2 q3 c gv gs hgs s hq2).mono fun e W' ⟨he, hb⟩ => ?_
  subst he
  exact ⟨_, rfl, law_post rows_laidOut rfl Tryd.underlying4 (by rw [Tryd.params4]; intro t ht; simp at ht; rcases ht with rfl | rfl <;> exact ⟨by kernel_rfl, of_decide_eq_true (by kernel_rfl)⟩) rfl ⟨rfl, rfl, rfl⟩ hW hb⟩

theorem privall_row : Rows.PrivacyAllSaid :=
  OpenClaim.holds_of_wide 4 Tryd.f4 rfl rfl rfl rfl rfl rfl rfl ⟨rfl, rfl, rfl, rfl, rfl⟩ rfl rfl rfl rfl rfl (by kernel_rfl) Tryd.func4 (by kernel_rfl)
    (of_decide_eq_true (by kernel_rfl)) (by unfold Func.isWrapper; first | (rw [if_pos (by decide +kernel)]; kernel_rfl) | (rw [if_neg (by decide +kernel)]; exact ⟨rfl, rfl⟩))
    (fun os started H enc _ => privall_lifted os started H enc)

theorem privall_holds : Rows.PrivacyAllCardSaid :=
  Claim7.holds_tied_plain_at .later [] [.data, .pinned] true (true, "db5b5d2775afa7222a4ad4f05983d2473fa7c7e1d17db406324c584551aee731") true privall_row (fun _ h => by cases h) (by kernel_rfl) (fun _ h => by cases h) privacyAll_row_tie rfl ⟨rfl, rfl⟩ (by kernel_rfl) rfl
    (fun f fn hf hfn => by
      obtain rfl : f = 4 := Option.some.inj ((show Tryd.prog.funcNamed "roost/roostlaw17.PrivacyAll" = some 4 by kernel_rfl).symm.trans hf) |>.symm
      obtain rfl : fn = Tryd.f4 := (Option.some.inj (Tryd.func4.symm.trans hfn)).symm
      exact ⟨by kernel_rfl, fun j t ht => by
        rw [Tryd.params4] at ht
        have hm : t ∈ [43, 43, 52] := by simpa using Array.mem_of_getElem? ht
        have hall : ([43, 43, 52].all fun u => !Tryd.prog.wantsStandIn u) = true := by kernel_rfl
        exact (show Tryd.prog.wantsStandIn t = false by simpa using List.all_eq_true.1 hall t hm)⟩)
    (by kernel_rfl)
#print axioms privall_holds
end Go.Proofs.YthbjcihdlhkboaaDoor
