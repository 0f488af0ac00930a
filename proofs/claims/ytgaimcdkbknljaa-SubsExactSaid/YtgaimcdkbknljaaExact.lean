/- For every half, act, mail and number (each of its Go type, no other condition) SubsExact answers true, and its argument is left as it was. -/
import Derived.Test.YtgaimcdkbknljaaRows
import Derived.Test.YtgaimcdkbknljaaA7
import Derived.Test.YtgaimcdkbknljaaFrame
namespace Go.Proofs.Ytgaimcdkbknljaa
set_option linter.unusedSimpArgs false
set_option linter.unusedVariables false
open Go.ChangeShapes Go.WideShapes Go.ChangeAt Go.RowKit

theorem Try.own : ownKnob Try.prog.godebug = none := by kernel_rfl
theorem Try.laidOut : laidOutB Try.prog = true := by kernel_rfl

theorem event_form {W : World} {r : Reach} {base : Nat} {v : Value} (h : Value.okWide Try.prog W r base 43 v) :
    ∃ (h : Half) (k m n : Int), v = .agg #[.int .i64 h.o, .int .u64 h.n, .int .i64 h.i, .int .u64 h.m, .int .i64 k, .int .i64 m, .int .u64 n] := by
  simp only [Value.okWide, Try.underlying43] at h
  obtain ⟨cs, rfl, hs, hr⟩ := h
  have hts : Try.prog.cellTypes Try.prog.depth 43 = some [3, 23, 3, 23, 3, 3, 23] := by kernel_rfl
  have hsz : Try.prog.cellsOf 43 = 7 := by kernel_rfl
  rw [hsz] at hs
  have hc := row_okWide hts (by simpa using hs) hr
  match cs, hs with
  | ⟨[c0, c1, c2, c3, c4, c5, c6]⟩, _ =>
    obtain ⟨n0, rfl, _⟩ := cell_int Try.underlying3 (hc 0 c0 3 rfl rfl)
    obtain ⟨n1, rfl, _⟩ := cell_int Try.underlying23 (hc 1 c1 23 rfl rfl)
    obtain ⟨n2, rfl, _⟩ := cell_int Try.underlying3 (hc 2 c2 3 rfl rfl)
    obtain ⟨n3, rfl, _⟩ := cell_int Try.underlying23 (hc 3 c3 23 rfl rfl)
    obtain ⟨n4, rfl, _⟩ := cell_int Try.underlying3 (hc 4 c4 3 rfl rfl)
    obtain ⟨n5, rfl, _⟩ := cell_int Try.underlying3 (hc 5 c5 3 rfl rfl)
    obtain ⟨n6, rfl, _⟩ := cell_int Try.underlying23 (hc 6 c6 23 rfl rfl)
    exact ⟨⟨n0, n1, n2, n3⟩, n4, n5, n6, rfl⟩

set_option maxRecDepth 100000 in
theorem exact_lifted (os : Os) (started : os.Started) (H : Type) (enc : TypeId × Value → H) :
    ReturnsInHanded {} Try.checked os 4 .any (Rows.subsExactSpec.pre6 enc Try.prog Try.f4 Rows.subsExactRow.domain false) (Rows.subsExactSpec.post enc Try.prog Try.f4 false true false false) := by
  refine returnsInHanded_of_change (C := Try.checked) Try.own started (by kernel_rfl) Try.func4
    (ChangeSpec.witness6 (enc := enc) (C := Try.checked) false ⟨#[], #[.agg #[.int .i64 0, .int .u64 0, .int .i64 0, .int .u64 0, .int .i64 0, .int .i64 0, .int .u64 0]], []⟩ 8 (by kernel_rfl) (by kernel_rfl) (by kernel_rfl) (by kernel_rfl)) ?_
  intro W base args ds gs before hval0 hW hcnd _
  have hval : ∀ (j : Nat) t v, Try.f4.params[j]? = some t → args[j]? = some v → Value.okWide Try.prog W .any base t v := hval0
  have hA : ∃ p, DataW.TrodAll enc Try.prog W 0 (fun _ => true) true Try.f4.params.toList args.toList ds p := by obtain ⟨p, _, h, _⟩ := hW; exact ⟨p, h⟩
  obtain ⟨p, hA⟩ := hA
  rw [Try.params4] at hA hval
  obtain ⟨v0, d0, rfl, rfl, h0⟩ := trodAll_one hA
  have hg : gs = [] := by obtain ⟨_, q, _, h, _⟩ := hW; exact (trodVars_none h).1
  subst hg
  obtain ⟨h, k, m, n, rfl⟩ := event_form (hval 0 43 v0 rfl rfl)
  refine (exact_any h k m n W).mono fun e W' ⟨he, hb⟩ => ?_
  subst he
  exact ⟨_, rfl, law_post Try.laidOut rfl Try.underlying4 (by rw [Try.params4]; intro t ht; simp at ht; subst ht; exact ⟨by kernel_rfl, of_decide_eq_true (by kernel_rfl)⟩) rfl ⟨rfl, rfl, rfl⟩ hW hb⟩

theorem exact_holds : Rows.SubsExactSaid :=
  OpenClaim.holds_of_wide 4 Try.f4 rfl rfl rfl rfl rfl rfl rfl ⟨rfl, rfl, rfl, rfl, rfl⟩ rfl rfl rfl rfl rfl (by kernel_rfl) Try.func4 (by kernel_rfl)
    (of_decide_eq_true (by kernel_rfl)) (by unfold Func.isWrapper; first | (rw [if_pos (by decide +kernel)]; kernel_rfl) | (rw [if_neg (by decide +kernel)]; exact ⟨rfl, rfl⟩))
    (fun os started H enc _ => exact_lifted os started H enc)
#print axioms exact_holds
end Go.Proofs.Ytgaimcdkbknljaa
