/- From a row's condition to a walk's: the library's tables, the arguments. -/
import Derived.Test.YthbjcihdlhkboaaGreatDoorTx1
import Derived.Test.YthbjcihdlhkboaaGreatDoorFrame
import Derived.Test.YthbjcihdlhkboaaGreatDoorRows
import Derived.Handed
import Derived.PinnedBridge
import Derived.Lay
import Derived.LaidOnce
import Derived.Lib.LaidIn
import Derived.Lib.LaidU8T
import Derived.Deep.Strs
import Derived.ChangeVars
namespace Go.Proofs.YthbjcihdlhkboaaGreatDoor
set_option linter.unusedSimpArgs false
set_option linter.unusedVariables false
open Go.RowKit Go.Maps Go.Shelf Go.Lib Go.ChangeShapes Go.WideShapes Go.ChangeAt

/-- The guide's 'returnsInHanded_of_change_and', the world's shape handed on besides. -/
theorem handed_laid {H : Type} {enc : TypeId × Value → H} {a : Assume} {C : Checked} {os : Os} {f : FuncId} {fn : Func} {s : ChangeSpec} {conds : List PathCond} {apart fresh handsOn again : Bool} {X : World → Array Value → Prop}
    (hX : ∀ (w w' : World) (args : Array Value), w.heap = w'.heap → X w args → X w' args)
    (own : ownKnob C.prog.godebug = none) (started : os.Started) (noInit : C.prog.inits.idxOf? f = none) (hfn : C.prog.funcs[f]? = some fn)
    (witness : ∃ (w : World) (tape : Tape) (i : Input), w.os = os ∧ (w.forCall tape i).Shaped C.prog ∧ i.vars = [] ∧ Input.okWide C.prog (w.forCall tape i) .any w.heap.size f i ∧
      ((s.pre enc C.prog fn conds apart (w.forCall tape i).memory i.args ∧ X (w.forCall tape i).memory i.args) ∧ sizedMet enc C.prog fn (OpenSpec.ofChange s) apart (w.forCall tape i).memory i.args) ∧ a.holds C.prog (lone (Frame.enter C.prog f i.args .normal) [] (w.forCall tape i)))
    (contract : ∀ (W : World) (base : Nat) (args : Array Value) (ds gs : List (DataW H)) (before : List MemPlace),
      (∀ (j : Nat) t v, fn.params[j]? = some t → args[j]? = some v → Value.okWide C.prog W .any base t v) →
      DataW.Whole enc C.prog fn.params.toList s.vars apart W args.toList ds gs before → X W args → W.ShapedOpen C.prog →
      Calls C.prog f args W fun e W' => ∃ v, e = .returned v ∧ s.post enc C.prog fn apart fresh handsOn again W args v W') :
    ReturnsInHanded a C os f .any (fun w args => (s.pre enc C.prog fn conds apart w args ∧ X w args) ∧ sizedMet enc C.prog fn (OpenSpec.ofChange s) apart w args) (s.post enc C.prog fn apart fresh handsOn again) := by
  refine returnsInHanded_of_calls own started noInit witness ?_
  intro w tape i _ hsh _ hok hpre hholds
  obtain ⟨_, _, _, fn', hfn', _, _, _, _, hval⟩ := hok
  have e : fn' = fn := Option.some.inj (hfn'.symm.trans hfn)
  subst e
  obtain ⟨⟨⟨ds, gs, before, hw, hc⟩, hx⟩, hz⟩ := hpre
  have hw' := DataW.Whole.of_heap (w' := w.forCall tape i) (by rfl) hw
  refine (contract (w.forCall tape i) w.heap.size i.args ds gs before hval hw' (hX _ _ _ (by rfl) hx) hsh).mono fun e W' ⟨v, he, hp⟩ => ?_
  subst he
  exact ChangeSpec.post_blind hp

theorem rows_own : ownKnob Tryz.prog.godebug = none := by kernel_rfl
theorem rows_laidOut : laidOutB Tryz.prog = true := by kernel_rfl
def laidHere : List (String × DataW Unit) := [("unicode/utf8.acceptRanges", Rows.laid_unicode_utf8_acceptRanges), ("unicode/utf8.first", Rows.laid_unicode_utf8_first)]

set_option maxRecDepth 100000 in
theorem tabs_of_laid {W : World} (hL : laidMetH Tryz.prog laidHere W) (hsh : W.ShapedOpen Tryz.prog) : Tabs W := by
  rw [MakeChecks.laidMetH_plain _ _ _ (by kernel_rfl)] at hL
  have hf : Rows.laid_unicode_utf8_first = Lib.firstData := Pinned.utf8First_eq
  have ha : (Rows.laid_unicode_utf8_acceptRanges : DataW Unit) = Lib.acceptData := by kernel_rfl
  have r1 := Lib.laidMet.reads hL (.tail _ (.head _))
  have r2 := Lib.laidMet.reads hL (.head _)
  rw [hf] at r1
  rw [ha] at r2
  exact ⟨utf8Tabs_of_readsT (U8Types.of196 Tryz.lays196) ⟨by kernel_rfl, by kernel_rfl, by kernel_rfl, by kernel_rfl, by kernel_rfl, by kernel_rfl, by kernel_rfl⟩ r1 r2, Tryz.laysM145.s1_3 W hsh⟩

set_option maxRecDepth 100000 in
theorem strs_of_trod {H : Type} {enc : TypeId × Value → H} {W : World} {fuel : Nat} {x : DataW H × List MemPlace} {v : Value} (hf : DataW.trod enc Tryz.prog W 0 (fun _ => true) true fuel 32 [v] = some x) : ∃ ts, Strs W v ts := by
  rcases Deep.open_strs Tryz.underlying32 Tryz.underlying9 (by kernel_rfl) hf with ⟨he, _⟩ | ⟨a, len, cap, m, Sx, he, _, hlc, hcm, hm, hx, hel⟩
  · simp at he
    subst he
    exact ⟨[], Strs.nil W⟩
  · simp at he
    subst he
    have hmm : m = cap := by simpa using hm
    subst hmm
    refine ⟨(List.range len).map Sx, ⟨⟨some a, m, by simp, fun h0 => ?_⟩, by simp; unfold maxLen at hcm; omega⟩⟩
    have hl : 0 < len := by simpa using h0
    obtain ⟨ab, ao, asp⟩ := a
    have hx0 := (hel 0 (by omega)).1
    have hbl : ab < W.heap.size := by
      have := World.block_lt_of_cell? W _ hx0
      simpa [Addr.add] using this
    have hsp : asp = none := by
      have := World.cell?_spot hx0
      simpa [Addr.add] using this
    subst hsp
    refine ⟨ab, ao, rfl, hbl, fun j hj => ?_⟩
    have hj' : j < len := by simpa using hj
    have hc := (hel j (by omega)).1
    simp only [Addr.add_lit] at hc
    rw [hc]
    simp [List.getD_eq_getElem?_getD, List.getElem?_range hj']

set_option maxRecDepth 100000 in
theorem strs_arg {H : Type} {enc : TypeId × Value → H} {W : World} {d : DataW H} {p : List MemPlace} {base : Nat} {v : Value} (hw : Value.okWide Tryz.prog W .any base 32 v)
    (h : DataW.Trod enc Tryz.prog W 0 (fun _ => true) true 32 v d p) : ∃ ts, Strs W v ts := by
  obtain ⟨a0, len0, cap0, rfl⟩ := okWide_slice Tryz.underlying32 hw
  obtain ⟨fuel, hf⟩ := h
  exact strs_of_trod hf

theorem cell_string {P : Program} {w : World} {r : Reach} {base : Nat} {u : TypeId} {v : Value} (hu : P.underlying u = some .string) (h : Cell.okWide P w r base u v) : ∃ s, v = .string s := by
  simp only [Cell.okWide, hu] at h
  cases v <;> simp_all [Cell.ok]
theorem cell_bool {P : Program} {w : World} {r : Reach} {base : Nat} {u : TypeId} {v : Value} (hu : P.underlying u = some .bool) (h : Cell.okWide P w r base u v) : ∃ b, v = .bool b := by
  simp only [Cell.okWide, hu] at h
  cases v <;> simp_all [Cell.ok]
theorem cell_slice {P : Program} {w : World} {r : Reach} {base : Nat} {u e : TypeId} {v : Value} (hu : P.underlying u = some (.slice e)) (h : Cell.okWide P w r base u v) : ∃ A n c, v = .slice A n c := by
  simp only [Cell.okWide, hu] at h
  cases v <;> simp_all [Cell.ok]

set_option maxRecDepth 100000 in
theorem op_arg {H : Type} {enc : TypeId × Value → H} {W : World} {d : DataW H} {p : List MemPlace} {base : Nat} {v : Value} (hw : Value.okWide Tryz.prog W .any base 34 v)
    (h : DataW.Trod enc Tryz.prog W 0 (fun _ => true) true 34 v d p) :
    ∃ q0 q1 q2 q3 c gv gs s, v = .agg #[.int .i64 q0, .string q1, q2, .bool q3, .string c, gv, .string s] ∧ (∃ A n k, q2 = .slice A n k) ∧ Strs W gv gs := by
  simp only [Value.okWide, Tryz.underlying34] at hw
  obtain ⟨cs, rfl, hs, hr⟩ := hw
  have hts : Tryz.prog.cellTypes Tryz.prog.depth 34 = some [3, 9, 32, 4, 9, 32, 9] := by kernel_rfl
  have hsz : Tryz.prog.cellsOf 34 = 7 := by kernel_rfl
  rw [hsz] at hs
  have hc := row_okWide hts (by simpa using hs) hr
  match cs, hs with
  | ⟨[c0, c1, c2, c3, c4, c5, c6]⟩, _ =>
    obtain ⟨n0, rfl, _⟩ := cell_int Tryz.underlying3 (hc 0 c0 3 rfl rfl)
    obtain ⟨n1, rfl⟩ := cell_string Tryz.underlying9 (hc 1 c1 9 rfl rfl)
    have s2 := cell_slice Tryz.underlying32 (hc 2 c2 32 rfl rfl)
    obtain ⟨n3, rfl⟩ := cell_bool Tryz.underlying4 (hc 3 c3 4 rfl rfl)
    obtain ⟨n4, rfl⟩ := cell_string Tryz.underlying9 (hc 4 c4 9 rfl rfl)
    obtain ⟨n6, rfl⟩ := cell_string Tryz.underlying9 (hc 6 c6 9 rfl rfl)
    obtain ⟨fuel, hf⟩ := h
    obtain ⟨xs, n', _, _, _, hxl, hfs⟩ := DataW.trod_struct Tryz.underlying34 hf
    have g5 := hfs 5 _ rfl
    change DataW.trod _ _ _ _ _ _ _ 32 (List.take (Tryz.prog.cellsOf 32) _) = _ at g5
    rw [show Tryz.prog.cellsOf 32 = 1 from by kernel_rfl] at g5
    obtain ⟨y5, hy5⟩ : ∃ y, xs[5]? = some y := ⟨xs[5]'(by rw [hxl]; decide), List.getElem?_eq_getElem _⟩
    rw [hy5] at g5
    obtain ⟨ts, hts⟩ := strs_of_trod (v := c5) g5
    exact ⟨n0, n1, c2, n3, n4, c5, ts, n6, rfl, s2, hts⟩

end Go.Proofs.YthbjcihdlhkboaaGreatDoor
