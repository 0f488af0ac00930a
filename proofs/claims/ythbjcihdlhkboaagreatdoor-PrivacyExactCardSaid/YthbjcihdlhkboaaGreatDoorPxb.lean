/- The calls of lists, as they come in. -/
import Derived.Test.YthbjcihdlhkboaaGreatDoorPxa
import Derived.Test.YthbjcihdlhkboaaGreatDoorRow
import Derived.Deep.Slices
namespace Go.Proofs.YthbjcihdlhkboaaGreatDoor
set_option linter.unusedSimpArgs false
set_option linter.unusedVariables false
open Go.RowKit Go.Maps Go.Shelf Go.Lib Go.ChangeShapes Go.WideShapes Go.ChangeAt

set_option maxRecDepth 100000 in
/-- One call, read. -/
theorem opv_read {H : Type} {enc : TypeId × Value → H} {W : World} {fuel : Nat} {x : DataW H × List MemPlace} {cs : List Value} (h : DataW.trod enc Tryz.prog W 0 (fun _ => true) true fuel 34 cs = some x) (hl : cs.length = 7) :
    ∃ o : Opv, (∀ j, j < 7 → cs[j]? = o.cells[j]?) ∧ Strs W o.tv o.texts ∧ Strs W o.gv o.groups := by
  match cs, hl with
  | [c0, c1, c2, c3, c4, c5, c6], _ =>
    obtain ⟨xs, n', _, _, _, hxl, hfs⟩ := DataW.trod_struct Tryz.underlying34 h
    have hsz : ∀ i, i < 7 → ∃ y, xs[i]? = some y := fun i hi => ⟨xs[i]'(by rw [hxl]; exact hi), List.getElem?_eq_getElem _⟩
    have g0 := hfs 0 _ rfl
    obtain ⟨y0, hy0⟩ := hsz 0 (by decide)
    have g1 := hfs 1 _ rfl
    obtain ⟨y1, hy1⟩ := hsz 1 (by decide)
    have g2 := hfs 2 _ rfl
    obtain ⟨y2, hy2⟩ := hsz 2 (by decide)
    have g3 := hfs 3 _ rfl
    obtain ⟨y3, hy3⟩ := hsz 3 (by decide)
    have g4 := hfs 4 _ rfl
    obtain ⟨y4, hy4⟩ := hsz 4 (by decide)
    have g5 := hfs 5 _ rfl
    obtain ⟨y5, hy5⟩ := hsz 5 (by decide)
    have g6 := hfs 6 _ rfl
    obtain ⟨y6, hy6⟩ := hsz 6 (by decide)
    have i1 : Tryz.prog.cellsOf 3 = 1 := by kernel_rfl
    have i2 : Tryz.prog.cellsOf 9 = 1 := by kernel_rfl
    have i3 : Tryz.prog.cellsOf 32 = 1 := by kernel_rfl
    have i4 : Tryz.prog.cellsOf 4 = 1 := by kernel_rfl
    change DataW.trod _ _ _ _ _ _ _ 3 (List.take (Tryz.prog.cellsOf 3) _) = _ at g0
    rw [i1, hy0] at g0
    change DataW.trod _ _ _ _ _ _ _ 9 (List.take (Tryz.prog.cellsOf 9) _) = _ at g1
    rw [i2, hy1] at g1
    change DataW.trod _ _ _ _ _ _ _ 32 (List.take (Tryz.prog.cellsOf 32) _) = _ at g2
    rw [i3, hy2] at g2
    change DataW.trod _ _ _ _ _ _ _ 4 (List.take (Tryz.prog.cellsOf 4) _) = _ at g3
    rw [i4, hy3] at g3
    change DataW.trod _ _ _ _ _ _ _ 9 (List.take (Tryz.prog.cellsOf 9) _) = _ at g4
    rw [i2, hy4] at g4
    change DataW.trod _ _ _ _ _ _ _ 32 (List.take (Tryz.prog.cellsOf 32) _) = _ at g5
    rw [i3, hy5] at g5
    change DataW.trod _ _ _ _ _ _ _ 9 (List.take (Tryz.prog.cellsOf 9) _) = _ at g6
    rw [i2, hy6] at g6
    obtain ⟨x0, e0, _, _⟩ := DataW.trod_int (cs := [c0]) Tryz.underlying3 g0
    obtain ⟨x1, e1, _, s1⟩ := DataW.trod_string (cs := [c1]) Tryz.underlying9 g1
    obtain ⟨ts, hts⟩ := strs_of_trod (v := c2) g2
    obtain ⟨x3, e3, _⟩ := DataW.trod_bool (cs := [c3]) Tryz.underlying4 g3
    obtain ⟨x4, e4, _, s4⟩ := DataW.trod_string (cs := [c4]) Tryz.underlying9 g4
    obtain ⟨gs, hgs⟩ := strs_of_trod (v := c5) g5
    obtain ⟨x6, e6, _, s6⟩ := DataW.trod_string (cs := [c6]) Tryz.underlying9 g6
    simp only [List.cons.injEq, and_true] at e0 e1 e3 e4 e6
    subst e0 e1 e3 e4 e6
    refine ⟨⟨x0, x1, c2, ts, x3, x4, c5, gs, x6⟩, fun j hj => ?_, hts, hgs⟩
    simp [Opv.cells]

set_option maxRecDepth 100000 in
/-- The argument, as it lies in memory. -/
theorem opsv_form {H : Type} {enc : TypeId × Value → H} {W : World} {d : DataW H} {p : List MemPlace} {base : Nat} {v : Value} (hw : Value.okWide Tryz.prog W .any base 22 v)
    (h : DataW.Trod enc Tryz.prog W 0 (fun _ => true) true 22 v d p) :
    ∃ A L cap E, v = .slice A L cap ∧ OpvAt W A L E ∧ L ≤ 9223372036854775807 := by
  obtain ⟨a0, len0, cap0, rfl⟩ := okWide_slice Tryz.underlying22 hw
  obtain ⟨fuel, hf⟩ := h
  have hcs : Tryz.prog.cellsOf 34 = 7 := by kernel_rfl
  rcases Deep.open_slice Tryz.underlying22 hf with ⟨he, _⟩ | ⟨a, len, cap, m, n, D, Pl, he, _, hlc, hcm, hm, hx, hel⟩
  · simp [Value.cells] at he
    obtain ⟨rfl, rfl, rfl⟩ := he
    exact ⟨none, 0, 0, fun _ => ⟨0, .empty, .slice none 0 0, [], false, .empty, .slice none 0 0, [], .empty⟩, rfl, ⟨fun h => absurd h (by omega)⟩, by omega⟩
  · simp [Value.cells] at he
    obtain ⟨rfl, rfl, rfl⟩ := he
    have hmm : m = cap0 := by simpa using hm
    subst hmm
    rw [hcs] at hel hx
    have key : ∀ i : Nat, ∃ o : Opv, i < len0 → (∀ j, j < 7 → W.cell? ((a.add (i * 7)).add j) = o.cells[j]?) ∧ Strs W o.tv o.texts ∧ Strs W o.gv o.groups := by
      intro i
      by_cases hi : i < len0
      · obtain ⟨cs, h1, h2⟩ := hel i (by omega)
        obtain ⟨_, hl, hc⟩ := World.cells?_some h1
        obtain ⟨o, ho, hr⟩ := opv_read h2 hl
        exact ⟨o, fun _ => ⟨fun j hj => (hc j hj).trans (ho j hj), hr⟩⟩
      · exact ⟨⟨0, .empty, .slice none 0 0, [], false, .empty, .slice none 0 0, [], .empty⟩, fun h => absurd h hi⟩
    obtain ⟨f, hf2⟩ := Classical.axiomOfChoice key
    refine ⟨some a, len0, _, f, rfl, ⟨fun h0 => ?_⟩, by unfold maxLen at hcm; omega⟩
    have hx0 : W.cell? ((a.add (0 * 7)).add 0) = some (.int .i64 (f 0).act) := (hf2 0 h0).1 0 (by omega)
    have hsp : a.spot = none := by
      have := World.cell?_spot hx0
      simpa [Addr.add] using this
    have hbl : a.block < W.heap.size := by
      have := World.block_lt_of_cell? W _ hx0
      simpa [Addr.add] using this
    obtain ⟨ab, ao, asp⟩ := a
    simp only at hsp hbl
    subst hsp
    refine ⟨ab, ao, rfl, hbl, fun i hi => ⟨fun j hj => ?_, (hf2 i hi).2⟩⟩
    have hc := (hf2 i hi).1 j hj
    simp only [Addr.add_lit] at hc
    exact hc
end Go.Proofs.YthbjcihdlhkboaaGreatDoor
