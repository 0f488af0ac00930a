/- From a row's condition to a walk's, the arguments' sizes handed on; an argument that is a rule. -/
import Derived.Test.YthbjcihdlhkboaaDoorRow
import Derived.Test.YthbjcihdlhkboaaDoorPv3
namespace Go.Proofs.YthbjcihdlhkboaaDoor
set_option linter.unusedSimpArgs false
set_option linter.unusedVariables false
open Go.RowKit Go.Maps Go.Shelf Go.Lib Go.ChangeShapes Go.WideShapes Go.ChangeAt

/-- 'handed_laid', the arguments' weights handed on besides. -/
theorem handed_sized {H : Type} {enc : TypeId × Value → H} {a : Assume} {C : Checked} {os : Os} {f : FuncId} {fn : Func} {s : ChangeSpec} {conds : List PathCond} {apart fresh handsOn again : Bool} {X : World → Array Value → Prop}
    (hX : ∀ (w w' : World) (args : Array Value), w.heap = w'.heap → X w args → X w' args)
    (own : ownKnob C.prog.godebug = none) (started : os.Started) (noInit : C.prog.inits.idxOf? f = none) (hfn : C.prog.funcs[f]? = some fn)
    (witness : ∃ (w : World) (tape : Tape) (i : Input), w.os = os ∧ (w.forCall tape i).Shaped C.prog ∧ i.vars = [] ∧ Input.okWide C.prog (w.forCall tape i) .any w.heap.size f i ∧
      ((s.pre enc C.prog fn conds apart (w.forCall tape i).memory i.args ∧ X (w.forCall tape i).memory i.args) ∧ sizedMet enc C.prog fn (OpenSpec.ofChange s) apart (w.forCall tape i).memory i.args) ∧ a.holds C.prog (lone (Frame.enter C.prog f i.args .normal) [] (w.forCall tape i)))
    (contract : ∀ (W : World) (base : Nat) (args : Array Value) (ds gs : List (DataW H)) (before : List MemPlace),
      (∀ (j : Nat) t v, fn.params[j]? = some t → args[j]? = some v → Value.okWide C.prog W .any base t v) →
      DataW.Whole enc C.prog fn.params.toList s.vars apart W args.toList ds gs before →
      (DataW.weightsEach C.prog (fn.params.toList ++ (OpenSpec.ofChange s).bare.plain.varTypes C.prog) (ds ++ gs)).all (· ≤ reachBytes) = true → X W args → W.ShapedOpen C.prog →
      Calls C.prog f args W fun e W' => ∃ v, e = .returned v ∧ s.post enc C.prog fn apart fresh handsOn again W args v W') :
    ReturnsInHanded a C os f .any (fun w args => (s.pre enc C.prog fn conds apart w args ∧ X w args) ∧ sizedMet enc C.prog fn (OpenSpec.ofChange s) apart w args) (s.post enc C.prog fn apart fresh handsOn again) := by
  refine returnsInHanded_of_calls own started noInit witness ?_
  intro w tape i _ hsh _ hok hpre hholds
  obtain ⟨_, _, _, fn', hfn', _, _, _, _, hval⟩ := hok
  have e : fn' = fn := Option.some.inj (hfn'.symm.trans hfn)
  subst e
  obtain ⟨⟨⟨ds, gs, before, hw, hc⟩, hx⟩, hz⟩ := hpre
  have hw' := DataW.Whole.of_heap (w' := w.forCall tape i) (by rfl) hw
  refine (contract (w.forCall tape i) w.heap.size i.args ds gs before hval hw' (hz.weights hw) (hX _ _ _ (by rfl) hx) hsh).mono fun e W' ⟨v, he, hp⟩ => ?_
  subst he
  exact ChangeSpec.post_blind hp

/-- A text among the arguments is no longer than the reach. -/
theorem weight_string {H : Type} {P : Program} {t : TypeId} {l : List UInt8} {r : List Nat} (h : ((DataW.lit (.string l) : DataW H).weights P t ++ r).all (· ≤ reachBytes) = true) : l.length ≤ 140737488351232 ∧ r.all (· ≤ reachBytes) = true := by
  simp only [DataW.weights, List.all_append, List.all_cons, List.all_nil, Bool.and_true, Bool.and_eq_true, decide_eq_true_eq, reachBytes] at h
  exact ⟨of_decide_eq_true h.1, h.2⟩

set_option maxRecDepth 100000 in
theorem rule_arg {H : Type} {enc : TypeId × Value → H} {W : World} {d : DataW H} {p : List MemPlace} {base : Nat} {v : Value} (hw : Value.okWide Tryd.prog W .any base 65 v)
    (h : DataW.Trod enc Tryd.prog W 0 (fun _ => true) true 65 v d p) (hz : (d.weights Tryd.prog 65).all (· ≤ reachBytes) = true) :
    ∃ r : Rule, v = r.val ∧ r.by_.size ≤ 140737488355328 ∧ r.value.size ≤ 140737488355328 := by
  simp only [Value.okWide, Tryd.underlying65] at hw
  obtain ⟨cs, rfl, hs, hr⟩ := hw
  have hts : Tryd.prog.cellTypes Tryd.prog.depth 65 = some [4, 4, 4, 9, 9] := by kernel_rfl
  have hsz : Tryd.prog.cellsOf 65 = 5 := by kernel_rfl
  rw [hsz] at hs
  have hc := row_okWide hts (by simpa using hs) hr
  match cs, hs with
  | ⟨[c0, c1, c2, c3, c4]⟩, _ =>
    obtain ⟨n0, rfl⟩ := cell_bool Tryd.underlying4 (hc 0 c0 4 rfl rfl)
    obtain ⟨n1, rfl⟩ := cell_bool Tryd.underlying4 (hc 1 c1 4 rfl rfl)
    obtain ⟨n2, rfl⟩ := cell_bool Tryd.underlying4 (hc 2 c2 4 rfl rfl)
    obtain ⟨n3, rfl⟩ := cell_string Tryd.underlying9 (hc 3 c3 9 rfl rfl)
    obtain ⟨n4, rfl⟩ := cell_string Tryd.underlying9 (hc 4 c4 9 rfl rfl)
    obtain ⟨fuel, hf⟩ := h
    obtain ⟨xs, n', _, hx, _, hxl, hfs⟩ := DataW.trod_struct Tryd.underlying65 hf
    have g3 := hfs 3 _ rfl
    have g4 := hfs 4 _ rfl
    change DataW.trod _ _ _ _ _ _ _ 9 (List.take (Tryd.prog.cellsOf 9) _) = _ at g3
    change DataW.trod _ _ _ _ _ _ _ 9 (List.take (Tryd.prog.cellsOf 9) _) = _ at g4
    rw [show Tryd.prog.cellsOf 9 = 1 from by kernel_rfl] at g3 g4
    match xs, hxl with
    | [x0, x1, x2, x3, x4], _ =>
      obtain ⟨s3, h3, hx3, _⟩ := DataW.trod_string (x := x3) Tryd.underlying9 g3
      obtain ⟨s4, h4, hx4, _⟩ := DataW.trod_string (x := x4) Tryd.underlying9 g4
      simp [Value.cells] at h3 h4
      subst h3 h4
      have hd : d = .agg [x0.1, x1.1, x2.1, x3.1, x4.1] := by
        have := congrArg Prod.fst hx
        simpa using this
      subst hd
      have hwt : (DataW.weights Tryd.prog 65 (.agg [x0.1, x1.1, x2.1, x3.1, x4.1])) = DataW.weightsEach Tryd.prog [4, 4, 4, 9, 9] [x0.1, x1.1, x2.1, x3.1, x4.1] := by
        rw [DataW.weights, Tryd.underlying65]
        rfl
      rw [hwt] at hz
      simp only [DataW.weightsEach, List.all_append, Bool.and_eq_true, hx3, hx4, DataW.weights, List.all_cons, List.all_nil, Bool.and_true, decide_eq_true_eq, reachBytes, Array.length_toList] at hz
      refine ⟨⟨n0, n1, n2, n3, n4⟩, rfl, ?_, ?_⟩
      · have := of_decide_eq_true hz.2.2.2.1
        show n3.data.size ≤ _
        omega
      · have := of_decide_eq_true hz.2.2.2.2
        show n4.data.size ≤ _
        omega

end Go.Proofs.YthbjcihdlhkboaaDoor
