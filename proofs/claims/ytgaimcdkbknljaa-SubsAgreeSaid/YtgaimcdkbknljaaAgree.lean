/- For every list of steps (of any length that the form's reach lets in, no other condition) SubsAgree answers true, and its argument is left as it was. -/
import Derived.Test.YtgaimcdkbknljaaRows
import Derived.Test.YtgaimcdkbknljaaAgreeW
import Derived.Test.YtgaimcdkbknljaaFrame
import Derived.Deep.Slices
namespace Go.Proofs.Ytgaimcdkbknljaa
open Go.ChangeShapes Go.WideShapes Go.ChangeAt Go.RowKit
set_option linter.unusedSimpArgs false
set_option linter.unusedVariables false

theorem Agree.own : ownKnob Try.prog.godebug = none := by kernel_rfl
theorem Agree.laidOut : laidOutB Try.prog = true := by kernel_rfl

/-- The argument, as it lies in memory. -/
theorem steps_form {H : Type} {enc : TypeId × Value → H} {W : World} {d : DataW H} {p : List MemPlace} {base : Nat} {v : Value} (hw : Value.okWide Try.prog W .any base 22 v)
    (h : DataW.Trod enc Try.prog W 0 (fun _ => true) true 22 v d p) (hlt : ∀ x ∈ p, x.block < W.heap.size) :
    ∃ A L cap E D, v = .slice A L cap ∧ Steps W A L E D ∧ L ≤ 9223372036854775807 := by
  obtain ⟨a0, len0, cap0, rfl⟩ := okWide_slice Try.underlying22 hw
  obtain ⟨fuel, hf⟩ := h
  have hcs : Try.prog.cellsOf 32 = 2 := by kernel_rfl
  rcases Deep.open_slice Try.underlying22 hf with ⟨he, _⟩ | ⟨a, len, cap, m, n, D, Pl, he, _, hlc, hcm, hm, hx, hel⟩
  · simp [Value.cells] at he
    obtain ⟨rfl, rfl, rfl⟩ := he
    exact ⟨none, 0, 0, fun _ => 0, fun _ => 0, rfl, ⟨fun h => absurd h (by omega)⟩, by omega⟩
  · simp [Value.cells] at he
    obtain ⟨rfl, rfl, rfl⟩ := he
    have hmm : m = cap0 := by simpa using hm
    subst hmm
    rw [hcs] at hel hx
    have key : ∀ i, i < len0 → ∃ x y : Int, W.cell? (a.add (i * 2)) = some (.int .i64 x) ∧ W.cell? ((a.add (i * 2)).add 1) = some (.int .i64 y) := by
      intro i hi
      obtain ⟨cs, h1, h2⟩ := hel i (by omega)
      obtain ⟨_, hl, hc⟩ := World.cells?_some h1
      obtain ⟨y0, y1, n', _, _, g0, g1⟩ := trod_struct2 Try.underlying32 h2
      match cs, hl with
      | [c0, c1], _ =>
        have e0 : Try.prog.cellsOf 3 = 1 := by kernel_rfl
        simp only [e0] at g0 g1
        obtain ⟨x, hx0, _⟩ := DataW.trod_int Try.underlying3 g0
        obtain ⟨y, hy0, _⟩ := DataW.trod_int Try.underlying3 g1
        simp at hx0 hy0
        subst hx0
        subst hy0
        exact ⟨x, y, (hc 0 (by omega)).trans (by simp), (hc 1 (by omega)).trans (by simp)⟩
    have key2 : ∀ i : Nat, ∃ z : Int × Int, i < len0 → W.cell? (a.add (i * 2)) = some (.int .i64 z.1) ∧ W.cell? ((a.add (i * 2)).add 1) = some (.int .i64 z.2) := by
      intro i
      by_cases hi : i < len0
      · obtain ⟨x, y, hxy⟩ := key i hi
        exact ⟨(x, y), fun _ => hxy⟩
      · exact ⟨(0, 0), fun h => absurd h hi⟩
    obtain ⟨f, hf2⟩ := Classical.axiomOfChoice key2
    refine ⟨some a, len0, _, fun i => (f i).1, fun i => (f i).2, rfl, ⟨fun h0 => ?_⟩, by unfold maxLen at hcm; omega⟩
    have hx0 := (hf2 0 h0).1
    have hsp : a.spot = none := by
      have := World.cell?_spot hx0
      simpa [Addr.add] using this
    have hbl : a.block < W.heap.size := by
      have := World.block_lt_of_cell? W _ hx0
      simpa [Addr.add] using this
    obtain ⟨ab, ao, asp⟩ := a
    simp only at hsp hbl
    subst hsp
    refine ⟨ab, ao, rfl, hbl, fun i hi => ?_⟩
    have hc := hf2 i hi
    simp only [Addr.add_lit] at hc
    exact hc

set_option maxRecDepth 100000 in
theorem agree_lifted (os : Os) (started : os.Started) (H : Type) (enc : TypeId × Value → H) :
    ReturnsInHanded {} Try.checked os 3 .any (Rows.subsAgreeSpec.pre6 enc Try.prog Try.f3 Rows.subsAgreeRow.domain false) (Rows.subsAgreeSpec.post enc Try.prog Try.f3 false true false false) := by
  refine returnsInHanded_of_change (C := Try.checked) Agree.own started (by kernel_rfl) Try.func3
    (ChangeSpec.witness6 (enc := enc) (C := Try.checked) false ⟨#[], #[.slice none 0 0], []⟩ 8 (by kernel_rfl) (by kernel_rfl) (by kernel_rfl) (by kernel_rfl)) ?_
  intro W base args ds gs before hval0 hW hcnd _
  have hval : ∀ (j : Nat) t v, Try.f3.params[j]? = some t → args[j]? = some v → Value.okWide Try.prog W .any base t v := hval0
  have hlt := hW.lt
  have hA : ∃ p, DataW.TrodAll enc Try.prog W 0 (fun _ => true) true Try.f3.params.toList args.toList ds p ∧ ∀ x ∈ p, x ∈ before := by obtain ⟨p, q, h, _, rfl, _⟩ := hW; exact ⟨p, h, fun x hx => List.mem_append.2 (.inl hx)⟩
  obtain ⟨p, hA, hp⟩ := hA
  rw [Try.params3] at hA hval
  obtain ⟨v0, d0, rfl, rfl, h0⟩ := trodAll_one hA
  have hg : gs = [] := by obtain ⟨_, q, _, h, _⟩ := hW; exact (trodVars_none h).1
  subst hg
  obtain ⟨A, L, cap, E, D, rfl, hst, hL⟩ := steps_form (hval 0 22 v0 rfl rfl) h0 (fun x hx => hlt x (hp x hx))
  refine (agree_any A L cap E D W hst hL).mono fun e W' ⟨he, hb⟩ => ?_
  subst he
  exact ⟨_, rfl, law_post Agree.laidOut rfl Try.underlying4 (by rw [Try.params3]; intro t ht; simp at ht; subst ht; exact ⟨by kernel_rfl, of_decide_eq_true (by kernel_rfl)⟩) rfl ⟨rfl, rfl, rfl⟩ hW hb⟩

theorem agree_holds : Rows.SubsAgreeSaid :=
  OpenClaim.holds_of_wide 3 Try.f3 rfl rfl rfl rfl rfl rfl rfl ⟨rfl, rfl, rfl, rfl, rfl⟩ rfl rfl rfl rfl rfl (by kernel_rfl) Try.func3 (by kernel_rfl)
    (of_decide_eq_true (by kernel_rfl)) (by unfold Func.isWrapper; first | (rw [if_pos (by decide +kernel)]; kernel_rfl) | (rw [if_neg (by decide +kernel)]; exact ⟨rfl, rfl⟩))
    (fun os started H enc _ => agree_lifted os started H enc)
#print axioms agree_holds
end Go.Proofs.Ytgaimcdkbknljaa
