/- For every list of events (of any length that the form's reach lets in, no other condition) SubsRight answers true, and its argument is left as it was. -/
import Derived.Test.YtgaimcdkbknljaaRows
import Derived.Test.YtgaimcdkbknljaaRightW
import Derived.Test.YtgaimcdkbknljaaFrame
import Derived.Deep.Slices
namespace Go.Proofs.Ytgaimcdkbknljaa
open Go.ChangeShapes Go.WideShapes Go.ChangeAt Go.RowKit
set_option linter.unusedSimpArgs false
set_option linter.unusedVariables false

theorem Right.own : ownKnob Try.prog.godebug = none := by kernel_rfl
theorem Right.laidOut : laidOutB Try.prog = true := by kernel_rfl

/-- The argument, as it lies in memory. -/
theorem events_form {H : Type} {enc : TypeId × Value → H} {W : World} {d : DataW H} {p : List MemPlace} {base : Nat} {v : Value} (hw : Value.okWide Try.prog W .any base 57 v)
    (h : DataW.Trod enc Try.prog W 0 (fun _ => true) true 57 v d p) :
    ∃ A L cap K M N, v = .slice A L cap ∧ Events W A L K M N ∧ L ≤ 9223372036854775807 := by
  obtain ⟨a0, len0, cap0, rfl⟩ := okWide_slice Try.underlying57 hw
  obtain ⟨fuel, hf⟩ := h
  have hcs : Try.prog.cellsOf 43 = 7 := by kernel_rfl
  rcases Deep.open_slice Try.underlying57 hf with ⟨he, _⟩ | ⟨a, len, cap, m, n, D, Pl, he, _, hlc, hcm, hm, hx, hel⟩
  · simp [Value.cells] at he
    obtain ⟨rfl, rfl, rfl⟩ := he
    exact ⟨none, 0, 0, fun _ => 0, fun _ => 0, fun _ => 0, rfl, ⟨fun h => absurd h (by omega)⟩, by omega⟩
  · simp [Value.cells] at he
    obtain ⟨rfl, rfl, rfl⟩ := he
    have hmm : m = cap0 := by simpa using hm
    subst hmm
    rw [hcs] at hel hx
    have key : ∀ i, i < len0 → ∃ x y z : Int, W.cell? ((a.add (i * 7)).add 4) = some (.int .i64 x) ∧ W.cell? ((a.add (i * 7)).add 5) = some (.int .i64 y) ∧ W.cell? ((a.add (i * 7)).add 6) = some (.int .u64 z) := by
      intro i hi
      obtain ⟨cs, h1, h2⟩ := hel i (by omega)
      obtain ⟨_, hl, hc⟩ := World.cells?_some h1
      obtain ⟨xs, n', _, _, _, hxl, hfs⟩ := DataW.trod_struct Try.underlying43 h2
      match cs, hl with
      | [c0, c1, c2, c3, c4, c5, c6], _ =>
        have e3 : Try.prog.cellsOf 3 = 1 := by kernel_rfl
        have e23 : Try.prog.cellsOf 23 = 1 := by kernel_rfl
        have g1 := hfs 1 _ rfl
        have g2 := hfs 2 _ rfl
        have g3 := hfs 3 _ rfl
        change DataW.trod _ _ _ _ _ _ _ 3 (List.take (Try.prog.cellsOf 3) _) = _ at g1
        change DataW.trod _ _ _ _ _ _ _ 3 (List.take (Try.prog.cellsOf 3) _) = _ at g2
        change DataW.trod _ _ _ _ _ _ _ 23 (List.take (Try.prog.cellsOf 23) _) = _ at g3
        rw [e3] at g1 g2
        rw [e23] at g3
        obtain ⟨y1, hy1⟩ : ∃ y, xs[1]? = some y := ⟨xs[1]'(by rw [hxl]; decide), List.getElem?_eq_getElem _⟩
        obtain ⟨y2, hy2⟩ : ∃ y, xs[2]? = some y := ⟨xs[2]'(by rw [hxl]; decide), List.getElem?_eq_getElem _⟩
        obtain ⟨y3, hy3⟩ : ∃ y, xs[3]? = some y := ⟨xs[3]'(by rw [hxl]; decide), List.getElem?_eq_getElem _⟩
        rw [hy1] at g1
        rw [hy2] at g2
        rw [hy3] at g3
        obtain ⟨x, hx0, _⟩ := DataW.trod_int Try.underlying3 g1
        obtain ⟨y, hy0, _⟩ := DataW.trod_int Try.underlying3 g2
        obtain ⟨z, hz0, _⟩ := DataW.trod_int Try.underlying23 g3
        simp at hx0 hy0 hz0
        subst hx0
        subst hy0
        subst hz0
        exact ⟨x, y, z, (hc 4 (by omega)).trans (by simp), (hc 5 (by omega)).trans (by simp), (hc 6 (by omega)).trans (by simp)⟩
    have key2 : ∀ i : Nat, ∃ z : Int × Int × Int, i < len0 → W.cell? ((a.add (i * 7)).add 4) = some (.int .i64 z.1) ∧ W.cell? ((a.add (i * 7)).add 5) = some (.int .i64 z.2.1) ∧ W.cell? ((a.add (i * 7)).add 6) = some (.int .u64 z.2.2) := by
      intro i
      by_cases hi : i < len0
      · obtain ⟨x, y, z, hxy⟩ := key i hi
        exact ⟨(x, y, z), fun _ => hxy⟩
      · exact ⟨(0, 0, 0), fun h => absurd h hi⟩
    obtain ⟨f, hf2⟩ := Classical.axiomOfChoice key2
    refine ⟨some a, len0, _, fun i => (f i).1, fun i => (f i).2.1, fun i => (f i).2.2, rfl, ⟨fun h0 => ?_⟩, by unfold maxLen at hcm; omega⟩
    obtain ⟨ab, ao, asp⟩ := a
    have hx0 := (hf2 0 h0).1
    have hbl : ab < W.heap.size := by
      have := World.block_lt_of_cell? W _ hx0
      simpa [Addr.add] using this
    have hsp : asp = none := by
      obtain ⟨cs, h1, _⟩ := hel 0 (by omega)
      obtain ⟨_, hl, hc⟩ := World.cells?_some h1
      have h3 := hc 0 (by omega)
      rw [List.getElem?_eq_getElem (by omega)] at h3
      have := World.cell?_spot h3
      simpa [Addr.add] using this
    subst hsp
    refine ⟨ab, ao, rfl, hbl, fun i hi => ?_⟩
    have hc := hf2 i hi
    simp only [Addr.add_lit] at hc
    exact hc

set_option maxRecDepth 100000 in
theorem right_lifted (os : Os) (started : os.Started) (H : Type) (enc : TypeId × Value → H) :
    ReturnsInHanded {} Try.checked os 6 .any (Rows.subsRightSpec.pre6 enc Try.prog Try.f6 Rows.subsRightRow.domain false) (Rows.subsRightSpec.post enc Try.prog Try.f6 false true false false) := by
  refine returnsInHanded_of_change (C := Try.checked) Right.own started (by kernel_rfl) Try.func6
    (ChangeSpec.witness6 (enc := enc) (C := Try.checked) false ⟨#[], #[.slice none 0 0], []⟩ 8 (by kernel_rfl) (by kernel_rfl) (by kernel_rfl) (by kernel_rfl)) ?_
  intro W base args ds gs before hval0 hW hcnd _
  have hval : ∀ (j : Nat) t v, Try.f6.params[j]? = some t → args[j]? = some v → Value.okWide Try.prog W .any base t v := hval0
  have hA : ∃ p, DataW.TrodAll enc Try.prog W 0 (fun _ => true) true Try.f6.params.toList args.toList ds p := by obtain ⟨p, _, h, _⟩ := hW; exact ⟨p, h⟩
  obtain ⟨p, hA⟩ := hA
  rw [Try.params6] at hA hval
  obtain ⟨v0, d0, rfl, rfl, h0⟩ := trodAll_one hA
  have hg : gs = [] := by obtain ⟨_, q, _, h, _⟩ := hW; exact (trodVars_none h).1
  subst hg
  obtain ⟨A, L, cap, K, M, N, rfl, hst, hL⟩ := events_form (hval 0 57 v0 rfl rfl) h0
  refine (right_law A L cap K M N W hst hL).mono fun e W' ⟨he, hb⟩ => ?_
  subst he
  exact ⟨_, rfl, law_post Right.laidOut rfl Try.underlying4 (by rw [Try.params6]; intro t ht; simp at ht; subst ht; exact ⟨by kernel_rfl, of_decide_eq_true (by kernel_rfl)⟩) rfl ⟨rfl, rfl, rfl⟩ hW hb⟩

theorem right_holds : Rows.SubsRightSaid :=
  OpenClaim.holds_of_wide 6 Try.f6 rfl rfl rfl rfl rfl rfl rfl ⟨rfl, rfl, rfl, rfl, rfl⟩ rfl rfl rfl rfl rfl (by kernel_rfl) Try.func6 (by kernel_rfl)
    (of_decide_eq_true (by kernel_rfl)) (by unfold Func.isWrapper; first | (rw [if_pos (by decide +kernel)]; kernel_rfl) | (rw [if_neg (by decide +kernel)]; exact ⟨rfl, rfl⟩))
    (fun os started H enc _ => right_lifted os started H enc)
#print axioms right_holds
end Go.Proofs.Ytgaimcdkbknljaa
