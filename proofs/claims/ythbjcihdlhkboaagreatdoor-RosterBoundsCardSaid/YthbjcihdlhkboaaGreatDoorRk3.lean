/- RosterBounds' calls, as they come in. -/
import Derived.Test.YthbjcihdlhkboaaGreatDoorRk1
import Derived.Test.YthbjcihdlhkboaaGreatDoorRow
import Derived.Deep.Slices
namespace Go.Proofs.YthbjcihdlhkboaaGreatDoor
set_option linter.unusedSimpArgs false
set_option linter.unusedVariables false
open Go.RowKit Go.Maps Go.Shelf Go.Lib Go.ChangeShapes Go.WideShapes Go.ChangeAt

set_option maxRecDepth 100000 in
/-- One call, read. -/
theorem opd_read {H : Type} {enc : TypeId × Value → H} {W : World} {fuel : Nat} {x : DataW H × List MemPlace} {cs : List Value} (h : DataW.trod enc Tryz.prog W 0 (fun _ => true) true fuel 47 cs = some x) (hl : cs.length = 6) :
    ∃ o : OpD, (∀ j, j < 6 → cs[j]? = o.cells[j]?) ∧ Strs W o.gv o.groups ∧ o.contact.size ≤ 9223372036854775807 ∧ o.name.size ≤ 9223372036854775807 ∧ 0 ≤ o.n ∧ o.n < 18446744073709551616 := by
  match cs, hl with
  | [c0, c1, c2, c3, c4, c5], _ =>
    obtain ⟨xs, n', _, _, _, hxl, hfs⟩ := DataW.trod_struct Tryz.underlying47 h
    have hsz : ∀ i, i < 6 → ∃ y, xs[i]? = some y := fun i hi => ⟨xs[i]'(by rw [hxl]; exact hi), List.getElem?_eq_getElem _⟩
    have g0 := hfs 0 _ rfl
    have g1 := hfs 1 _ rfl
    have g2 := hfs 2 _ rfl
    have g3 := hfs 3 _ rfl
    have g4 := hfs 4 _ rfl
    have g5 := hfs 5 _ rfl
    obtain ⟨y0, hy0⟩ := hsz 0 (by decide)
    obtain ⟨y1, hy1⟩ := hsz 1 (by decide)
    obtain ⟨y2, hy2⟩ := hsz 2 (by decide)
    obtain ⟨y3, hy3⟩ := hsz 3 (by decide)
    obtain ⟨y4, hy4⟩ := hsz 4 (by decide)
    obtain ⟨y5, hy5⟩ := hsz 5 (by decide)
    have i1 : Tryz.prog.cellsOf 3 = 1 := by kernel_rfl
    have i2 : Tryz.prog.cellsOf 9 = 1 := by kernel_rfl
    have i3 : Tryz.prog.cellsOf 32 = 1 := by kernel_rfl
    have i4 : Tryz.prog.cellsOf 45 = 1 := by kernel_rfl
    change DataW.trod _ _ _ _ _ _ _ 3 (List.take (Tryz.prog.cellsOf 3) _) = _ at g0
    change DataW.trod _ _ _ _ _ _ _ 9 (List.take (Tryz.prog.cellsOf 9) _) = _ at g1
    change DataW.trod _ _ _ _ _ _ _ 9 (List.take (Tryz.prog.cellsOf 9) _) = _ at g2
    change DataW.trod _ _ _ _ _ _ _ 32 (List.take (Tryz.prog.cellsOf 32) _) = _ at g3
    change DataW.trod _ _ _ _ _ _ _ 3 (List.take (Tryz.prog.cellsOf 3) _) = _ at g4
    change DataW.trod _ _ _ _ _ _ _ 45 (List.take (Tryz.prog.cellsOf 45) _) = _ at g5
    rw [i1, hy0] at g0
    rw [i2, hy1] at g1
    rw [i2, hy2] at g2
    rw [i3, hy3] at g3
    rw [i1, hy4] at g4
    rw [i4, hy5] at g5
    obtain ⟨x0, e0, _, _⟩ := DataW.trod_int (cs := [c0]) Tryz.underlying3 g0
    obtain ⟨x1, e1, _, s1⟩ := DataW.trod_string (cs := [c1]) Tryz.underlying9 g1
    obtain ⟨x2, e2, _, s2⟩ := DataW.trod_string (cs := [c2]) Tryz.underlying9 g2
    obtain ⟨ts, hts⟩ := strs_of_trod (v := c3) g3
    obtain ⟨x4, e4, _, _⟩ := DataW.trod_int (cs := [c4]) Tryz.underlying3 g4
    obtain ⟨x5, e5, _, w5⟩ := DataW.trod_int (cs := [c5]) Tryz.underlying45 g5
    simp only [List.cons.injEq, and_true] at e0 e1 e2 e4 e5
    subst e0 e1 e2 e4 e5
    simp [Lit.wf, IntKind.min, IntKind.max, IntKind.signed, IntKind.bits] at w5
    unfold maxLen at s1 s2
    refine ⟨⟨x0, x1, x2, c3, ts, x4, x5⟩, fun j hj => ?_, hts, by simpa using s1, by simpa using s2, by simp only; omega, by simp only; omega⟩
    simp [OpD.cells]

set_option maxRecDepth 100000 in
/-- The argument, as it lies in memory. -/
theorem ops_form {H : Type} {enc : TypeId × Value → H} {W : World} {d : DataW H} {p : List MemPlace} {base : Nat} {v : Value} (hw : Value.okWide Tryz.prog W .any base 41 v)
    (h : DataW.Trod enc Tryz.prog W 0 (fun _ => true) true 41 v d p) :
    ∃ A L cap E, v = .slice A L cap ∧ OpsAt W A L E ∧ L ≤ 9223372036854775807 := by
  obtain ⟨a0, len0, cap0, rfl⟩ := okWide_slice Tryz.underlying41 hw
  obtain ⟨fuel, hf⟩ := h
  have hcs : Tryz.prog.cellsOf 47 = 6 := by kernel_rfl
  rcases Deep.open_slice Tryz.underlying41 hf with ⟨he, _⟩ | ⟨a, len, cap, m, n, D, Pl, he, _, hlc, hcm, hm, hx, hel⟩
  · simp [Value.cells] at he
    obtain ⟨rfl, rfl, rfl⟩ := he
    exact ⟨none, 0, 0, fun _ => ⟨0, .empty, .empty, .slice none 0 0, [], 0, 0⟩, rfl, ⟨fun h => absurd h (by omega)⟩, by omega⟩
  · simp [Value.cells] at he
    obtain ⟨rfl, rfl, rfl⟩ := he
    have hmm : m = cap0 := by simpa using hm
    subst hmm
    rw [hcs] at hel hx
    have key : ∀ i : Nat, ∃ o : OpD, i < len0 → (∀ j, j < 6 → W.cell? ((a.add (i * 6)).add j) = o.cells[j]?) ∧ Strs W o.gv o.groups ∧ o.contact.size ≤ 9223372036854775807 ∧ o.name.size ≤ 9223372036854775807 ∧ 0 ≤ o.n ∧ o.n < 18446744073709551616 := by
      intro i
      by_cases hi : i < len0
      · obtain ⟨cs, h1, h2⟩ := hel i (by omega)
        obtain ⟨_, hl, hc⟩ := World.cells?_some h1
        obtain ⟨o, ho, hr⟩ := opd_read h2 hl
        exact ⟨o, fun _ => ⟨fun j hj => (hc j hj).trans (ho j hj), hr⟩⟩
      · exact ⟨⟨0, .empty, .empty, .slice none 0 0, [], 0, 0⟩, fun h => absurd h hi⟩
    obtain ⟨f, hf2⟩ := Classical.axiomOfChoice key
    refine ⟨some a, len0, _, f, rfl, ⟨fun h0 => ?_⟩, by unfold maxLen at hcm; omega⟩
    have hx0 : W.cell? ((a.add (0 * 6)).add 0) = some (.int .i64 (f 0).act) := (hf2 0 h0).1 0 (by omega)
    have hsp : a.spot = none := by
      have := World.cell?_spot hx0
      simpa [Addr.add] using this
    have hbl : a.block < W.heap.size := by
      have := World.block_lt_of_cell? W _ hx0
      simpa [Addr.add] using this
    obtain ⟨ab, ao, asp⟩ := a
    simp only at hsp hbl
    subst hsp
    refine ⟨ab, ao, rfl, hbl, fun i hi => ⟨fun j hj => ?_, (hf2 i hi).2⟩⟩
    have hc := (hf2 i hi).1 j hj
    simp only [Addr.add_lit] at hc
    exact hc
end Go.Proofs.YthbjcihdlhkboaaGreatDoor
