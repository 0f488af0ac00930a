/- For every shelf and every list of calls PrivacyLoad answers true, and its arguments are left as they were: no condition; the library's two tables hold what the program's text lays, tied by the card. -/
import Derived.Test.YthbjcihdlhkboaaGreatDoorRows
import Derived.Test.YthbjcihdlhkboaaGreatDoorTie
import Derived.Test.YthbjcihdlhkboaaGreatDoorCards
import Derived.Test.YthbjcihdlhkboaaGreatDoorPl5
import Derived.Test.YthbjcihdlhkboaaGreatDoorRow
import Derived.Deep.Slices
import Derived.SevenTiedAt
namespace Go.Proofs.YthbjcihdlhkboaaGreatDoor
set_option linter.unusedSimpArgs false
set_option linter.unusedVariables false
open Go.RowKit Go.Maps Go.Shelf Go.Lib Go.ChangeShapes Go.WideShapes Go.ChangeAt

set_option maxRecDepth 100000 in
theorem tab_of_trod {H : Type} {enc : TypeId × Value → H} {W : World} {fuel : Nat} {x : DataW H × List MemPlace} {v : Value} (hf : DataW.trod enc Tryz.prog W 0 (fun _ => true) true fuel 36 [v] = some x) : ∃ tss, TabS W v tss := by
  have hcs : Tryz.prog.cellsOf 32 = 1 := by kernel_rfl
  rcases Deep.open_slice Tryz.underlying36 hf with ⟨he, _⟩ | ⟨a, len, cap, m, n, D, Pl, he, _, hlc, hcm, hm, hx, hel⟩
  · simp at he
    subst he
    exact ⟨[], none, 0, rfl, by simp, fun h => absurd h (by simp)⟩
  · simp at he
    subst he
    have hmm : m = cap := by simpa using hm
    subst hmm
    rw [hcs] at hel hx
    have key : ∀ i : Nat, ∃ z : Value × List ByteArray, i < len → W.cell? (a.add (i * 1)) = some z.1 ∧ Strs W z.1 z.2 := by
      intro i
      by_cases hi : i < len
      · obtain ⟨cs, h1, h2⟩ := hel i (by omega)
        obtain ⟨_, hl, hc⟩ := World.cells?_some h1
        match cs, hl with
        | [c0], _ =>
          obtain ⟨ts, hts⟩ := strs_of_trod (v := c0) h2
          exact ⟨(c0, ts), fun _ => ⟨by have := hc 0 (by omega); simpa [Addr.add] using this, hts⟩⟩
      · exact ⟨(.slice none 0 0, []), fun h => absurd h hi⟩
    obtain ⟨f, hf2⟩ := Classical.axiomOfChoice key
    have hlen : ((List.range len).map fun i => (f i).2).length = len := by simp
    refine ⟨(List.range len).map fun i => (f i).2, some a, m, by rw [hlen], by rw [hlen]; unfold maxLen at hcm; omega, fun h0 => ?_⟩
    rw [hlen] at h0
    have hx0 : W.cell? (a.add (0 * 1)) = some (f 0).1 := (hf2 0 h0).1
    have hsp : a.spot = none := by
      have := World.cell?_spot hx0
      simpa [Addr.add] using this
    have hbl : a.block < W.heap.size := by
      have := World.block_lt_of_cell? W _ hx0
      simpa [Addr.add] using this
    obtain ⟨ab, ao, asp⟩ := a
    simp only at hsp hbl
    subst hsp
    refine ⟨ab, ao, rfl, hbl, fun k ts hk => ?_⟩
    have hkl : k < len := by have := (List.getElem?_eq_some_iff.1 hk).1; omega
    have e : ts = (f k).2 := by simpa [hkl] using hk.symm
    subst e
    have hc := hf2 k hkl
    simp only [Addr.add_lit, Nat.mul_one] at hc
    exact ⟨_, hc.1, hc.2⟩

set_option maxRecDepth 100000 in
theorem shelf_arg {H : Type} {enc : TypeId × Value → H} {W : World} {d : DataW H} {p : List MemPlace} {base : Nat} {v : Value} (hw : Value.okWide Tryz.prog W .any base 38 v)
    (h : DataW.Trod enc Tryz.prog W 0 (fun _ => true) true 38 v d p) :
    ∃ (s : ShD) (vn vt : Value), v = .agg #[.int .i64 s.lists, .int .i64 s.rules, .string s.deflt, vn, vt] ∧ Strs W vn s.names ∧ TabS W vt s.texts ∧ s.deflt.size ≤ maxLen := by
  simp only [Value.okWide, Tryz.underlying38] at hw
  obtain ⟨cs, rfl, hs, hr⟩ := hw
  have hts : Tryz.prog.cellTypes Tryz.prog.depth 38 = some [3, 3, 9, 32, 36] := by kernel_rfl
  have hsz : Tryz.prog.cellsOf 38 = 5 := by kernel_rfl
  rw [hsz] at hs
  have hc := row_okWide hts (by simpa using hs) hr
  match cs, hs with
  | ⟨[c0, c1, c2, c3, c4]⟩, _ =>
    obtain ⟨n0, rfl, _⟩ := cell_int Tryz.underlying3 (hc 0 c0 3 rfl rfl)
    obtain ⟨n1, rfl, _⟩ := cell_int Tryz.underlying3 (hc 1 c1 3 rfl rfl)
    obtain ⟨n2, rfl⟩ := cell_string Tryz.underlying9 (hc 2 c2 9 rfl rfl)
    obtain ⟨fuel, hf⟩ := h
    obtain ⟨xs, n', _, _, _, hxl, hfs⟩ := DataW.trod_struct Tryz.underlying38 hf
    have hsz : ∀ i, i < 5 → ∃ y, xs[i]? = some y := fun i hi => ⟨xs[i]'(by rw [hxl]; exact hi), List.getElem?_eq_getElem _⟩
    have g2 := hfs 2 _ rfl
    obtain ⟨y2, hy2⟩ := hsz 2 (by decide)
    have g3 := hfs 3 _ rfl
    obtain ⟨y3, hy3⟩ := hsz 3 (by decide)
    have g4 := hfs 4 _ rfl
    obtain ⟨y4, hy4⟩ := hsz 4 (by decide)
    change DataW.trod _ _ _ _ _ _ _ 9 (List.take (Tryz.prog.cellsOf 9) _) = _ at g2
    rw [show Tryz.prog.cellsOf 9 = 1 from by kernel_rfl, hy2] at g2
    change DataW.trod _ _ _ _ _ _ _ 32 (List.take (Tryz.prog.cellsOf 32) _) = _ at g3
    rw [show Tryz.prog.cellsOf 32 = 1 from by kernel_rfl, hy3] at g3
    change DataW.trod _ _ _ _ _ _ _ 36 (List.take (Tryz.prog.cellsOf 36) _) = _ at g4
    rw [show Tryz.prog.cellsOf 36 = 1 from by kernel_rfl, hy4] at g4
    obtain ⟨x2, e2, _, s2⟩ := DataW.trod_string (cs := [.string n2]) Tryz.underlying9 g2
    obtain ⟨ns, hns⟩ := strs_of_trod (v := c3) g3
    obtain ⟨tss, htss⟩ := tab_of_trod (v := c4) g4
    simp only [List.cons.injEq, and_true, Value.string.injEq] at e2
    subst e2
    exact ⟨⟨n0, n1, n2, ns, tss⟩, c3, c4, rfl, hns, htss, s2⟩
end Go.Proofs.YthbjcihdlhkboaaGreatDoor

namespace Go.Proofs.YthbjcihdlhkboaaGreatDoor
set_option linter.unusedSimpArgs false
set_option linter.unusedVariables false
open Go.RowKit Go.Maps Go.Shelf Go.Lib Go.ChangeShapes Go.WideShapes Go.ChangeAt

set_option maxRecDepth 100000 in
/-- One call, read. -/
theorem opv_read {H : Type} {enc : TypeId × Value → H} {W : World} {fuel : Nat} {x : DataW H × List MemPlace} {cs : List Value} (h : DataW.trod enc Tryz.prog W 0 (fun _ => true) true fuel 34 cs = some x) (hl : cs.length = 7) :
    ∃ o : Opv, (∀ j, j < 7 → cs[j]? = o.cells[j]?) ∧ Strs W o.tv o.texts ∧ Strs W o.gv o.groups := by
  match cs, hl with
  | [c0, c1, c2, c3, c4, c5, c6], _ =>
    obtain ⟨xs, n', _, _, _, hxl, hfs⟩ := DataW.trod_struct Tryz.underlying34 h
    have hsz : ∀ i, i < 7 → ∃ y, xs[i]? = some y := fun i hi => ⟨xs[i]'(by rw [hxl]; exact hi), List.getElem?_eq_getElem _⟩
    have g0 := hfs 0 _ rfl
    obtain ⟨y0, hy0⟩ := hsz 0 (by decide)
    have g1 := hfs 1 _ rfl
    obtain ⟨y1, hy1⟩ := hsz 1 (by decide)
    have g2 := hfs 2 _ rfl
    obtain ⟨y2, hy2⟩ := hsz 2 (by decide)
    have g3 := hfs 3 _ rfl
    obtain ⟨y3, hy3⟩ := hsz 3 (by decide)
    have g4 := hfs 4 _ rfl
    obtain ⟨y4, hy4⟩ := hsz 4 (by decide)
    have g5 := hfs 5 _ rfl
    obtain ⟨y5, hy5⟩ := hsz 5 (by decide)
    have g6 := hfs 6 _ rfl
    obtain ⟨y6, hy6⟩ := hsz 6 (by decide)
    have i1 : Tryz.prog.cellsOf 3 = 1 := by kernel_rfl
    have i2 : Tryz.prog.cellsOf 9 = 1 := by kernel_rfl
    have i3 : Tryz.prog.cellsOf 32 = 1 := by kernel_rfl
    have i4 : Tryz.prog.cellsOf 4 = 1 := by kernel_rfl
    change DataW.trod _ _ _ _ _ _ _ 3 (List.take (Tryz.prog.cellsOf 3) _) = _ at g0
    rw [i1, hy0] at g0
    change DataW.trod _ _ _ _ _ _ _ 9 (List.take (Tryz.prog.cellsOf 9) _) = _ at g1
    rw [i2, hy1] at g1
    change DataW.trod _ _ _ _ _ _ _ 32 (List.take (Tryz.prog.cellsOf 32) _) = _ at g2
    rw [i3, hy2] at g2
    change DataW.trod _ _ _ _ _ _ _ 4 (List.take (Tryz.prog.cellsOf 4) _) = _ at g3
    rw [i4, hy3] at g3
    change DataW.trod _ _ _ _ _ _ _ 9 (List.take (Tryz.prog.cellsOf 9) _) = _ at g4
    rw [i2, hy4] at g4
    change DataW.trod _ _ _ _ _ _ _ 32 (List.take (Tryz.prog.cellsOf 32) _) = _ at g5
    rw [i3, hy5] at g5
    change DataW.trod _ _ _ _ _ _ _ 9 (List.take (Tryz.prog.cellsOf 9) _) = _ at g6
    rw [i2, hy6] at g6
    obtain ⟨x0, e0, _, _⟩ := DataW.trod_int (cs := [c0]) Tryz.underlying3 g0
    obtain ⟨x1, e1, _, s1⟩ := DataW.trod_string (cs := [c1]) Tryz.underlying9 g1
    obtain ⟨ts, hts⟩ := strs_of_trod (v := c2) g2
    obtain ⟨x3, e3, _⟩ := DataW.trod_bool (cs := [c3]) Tryz.underlying4 g3
    obtain ⟨x4, e4, _, s4⟩ := DataW.trod_string (cs := [c4]) Tryz.underlying9 g4
    obtain ⟨gs, hgs⟩ := strs_of_trod (v := c5) g5
    obtain ⟨x6, e6, _, s6⟩ := DataW.trod_string (cs := [c6]) Tryz.underlying9 g6
    simp only [List.cons.injEq, and_true] at e0 e1 e3 e4 e6
    subst e0 e1 e3 e4 e6
    refine ⟨⟨x0, x1, c2, ts, x3, x4, c5, gs, x6⟩, fun j hj => ?_, hts, hgs⟩
    simp [Opv.cells]

set_option maxRecDepth 100000 in
/-- The argument, as it lies in memory. -/
theorem opsv_form {H : Type} {enc : TypeId × Value → H} {W : World} {d : DataW H} {p : List MemPlace} {base : Nat} {v : Value} (hw : Value.okWide Tryz.prog W .any base 22 v)
    (h : DataW.Trod enc Tryz.prog W 0 (fun _ => true) true 22 v d p) :
    ∃ A L cap E, v = .slice A L cap ∧ OpvAt W A L E ∧ L ≤ 9223372036854775807 := by
  obtain ⟨a0, len0, cap0, rfl⟩ := okWide_slice Tryz.underlying22 hw
  obtain ⟨fuel, hf⟩ := h
  have hcs : Tryz.prog.cellsOf 34 = 7 := by kernel_rfl
  rcases Deep.open_slice Tryz.underlying22 hf with ⟨he, _⟩ | ⟨a, len, cap, m, n, D, Pl, he, _, hlc, hcm, hm, hx, hel⟩
  · simp [Value.cells] at he
    obtain ⟨rfl, rfl, rfl⟩ := he
    exact ⟨none, 0, 0, fun _ => ⟨0, .empty, .slice none 0 0, [], false, .empty, .slice none 0 0, [], .empty⟩, rfl, ⟨fun h => absurd h (by omega)⟩, by omega⟩
  · simp [Value.cells] at he
    obtain ⟨rfl, rfl, rfl⟩ := he
    have hmm : m = cap0 := by simpa using hm
    subst hmm
    rw [hcs] at hel hx
    have key : ∀ i : Nat, ∃ o : Opv, i < len0 → (∀ j, j < 7 → W.cell? ((a.add (i * 7)).add j) = o.cells[j]?) ∧ Strs W o.tv o.texts ∧ Strs W o.gv o.groups := by
      intro i
      by_cases hi : i < len0
      · obtain ⟨cs, h1, h2⟩ := hel i (by omega)
        obtain ⟨_, hl, hc⟩ := World.cells?_some h1
        obtain ⟨o, ho, hr⟩ := opv_read h2 hl
        exact ⟨o, fun _ => ⟨fun j hj => (hc j hj).trans (ho j hj), hr⟩⟩
      · exact ⟨⟨0, .empty, .slice none 0 0, [], false, .empty, .slice none 0 0, [], .empty⟩, fun h => absurd h hi⟩
    obtain ⟨f, hf2⟩ := Classical.axiomOfChoice key
    refine ⟨some a, len0, _, f, rfl, ⟨fun h0 => ?_⟩, by unfold maxLen at hcm; omega⟩
    have hx0 : W.cell? ((a.add (0 * 7)).add 0) = some (.int .i64 (f 0).act) := (hf2 0 h0).1 0 (by omega)
    have hsp : a.spot = none := by
      have := World.cell?_spot hx0
      simpa [Addr.add] using this
    have hbl : a.block < W.heap.size := by
      have := World.block_lt_of_cell? W _ hx0
      simpa [Addr.add] using this
    obtain ⟨ab, ao, asp⟩ := a
    simp only at hsp hbl
    subst hsp
    refine ⟨ab, ao, rfl, hbl, fun i hi => ⟨fun j hj => ?_, (hf2 i hi).2⟩⟩
    have hc := (hf2 i hi).1 j hj
    simp only [Addr.add_lit] at hc
    exact hc
end Go.Proofs.YthbjcihdlhkboaaGreatDoor

namespace Go.Proofs.YthbjcihdlhkboaaGreatDoor
set_option linter.unusedSimpArgs false
set_option linter.unusedVariables false
open Go.RowKit Go.Maps Go.Shelf Go.Lib

theorem fold_idem (r : Int) : fold (fold r) = fold r := by
  by_cases h : (65 ≤ r ∧ r ≤ 90) ∨ (192 ≤ r ∧ r ≤ 222 ∧ ¬ r = 215) ∨ (913 ≤ r ∧ r ≤ 937 ∧ ¬ r = 930) ∨ (1040 ≤ r ∧ r ≤ 1071)
  · rw [fold_yes r h]; exact fold_no _ (by omega)
  · rw [fold_no r h, fold_no r h]
theorem enc_fold (d : Nat) : (Lib.encodeRune (fold (d : Int))).length = (Lib.encodeRune (d : Int)).length := by
  by_cases h : (65 ≤ (d : Int) ∧ (d : Int) ≤ 90) ∨ (192 ≤ (d : Int) ∧ (d : Int) ≤ 222 ∧ ¬ (d : Int) = 215) ∨ (913 ≤ (d : Int) ∧ (d : Int) ≤ 937 ∧ ¬ (d : Int) = 930) ∨ (1040 ≤ (d : Int) ∧ (d : Int) ≤ 1071)
  · rw [fold_yes _ h]
    unfold Lib.encodeRune
    by_cases h1 : (d : Int) ≤ 90
    · rw [Lib.encodeRuneZ_one (by omega) (by omega), Lib.encodeRuneZ_one (by omega) (by omega)]; rfl
    · rw [Lib.encodeRuneZ_two (by omega) (by omega), Lib.encodeRuneZ_two (by omega) (by omega)]; rfl
  · rw [fold_no _ h]
theorem enc_ne (d : Int) : Lib.encodeRune d ≠ [] := by
  intro h
  have he := Lib.encodeRuneZ_length d
  have hle : (Lib.encodeRune d).length = (Lib.encodeRuneZ d).length := by simp [Lib.encodeRune]
  rw [h] at hle
  simp at hle
  omega
theorem fold_all : ∀ (n : Nat) (l : List UInt8), l.length ≤ n → Lib.validD l = true → (Lib.mapD fold l).length ≤ l.length ∧ Lib.validD (Lib.mapD fold l) = true ∧ Lib.mapD fold (Lib.mapD fold l) = Lib.mapD fold l ∧ (l ≠ [] → Lib.mapD fold l ≠ [])
  | 0, l, hn, hv => by
    obtain rfl : l = [] := List.eq_nil_of_length_eq_zero (by omega)
    exact ⟨Nat.le_refl _, hv, rfl, fun h => absurd rfl h⟩
  | n + 1, l, hn, hv => by
    by_cases hne : l = []
    · subst hne
      exact ⟨Nat.le_refl _, hv, rfl, fun h => absurd rfl h⟩
    · have hst := fold_step l hne hv
      have hv0 := hv
      rw [Lib.validD_step l hne] at hv0
      have hbad : ¬ ((Lib.decodeL l).1 = 65533 ∧ (Lib.decodeL l).2 = 1) := by
        intro h
        rw [if_pos h] at hv0
        cases hv0
      obtain ⟨d, hd, hs⟩ := fold_scalar _ (decodeL_scalar l hne hbad)
      have hw := Lib.decodeL_width l
      have hlen : 0 < l.length := List.length_pos_iff.2 hne
      obtain ⟨i1, i2, i3, _⟩ := fold_all n (l.drop (Lib.decodeL l).2) (by rw [List.length_drop]; omega) hst.1
      have hm := hst.2.2.2.1
      rw [hd] at hm
      have hl1 : (Lib.encodeRune (d : Int)).length = (l.take (Lib.decodeL l).2).length := by
        rw [← hd, enc_fold, Lib.encode_decode l hne hbad]
      have hne2 : Lib.encodeRune (d : Int) ++ Lib.mapD fold (l.drop (Lib.decodeL l).2) ≠ [] := by
        intro h
        exact enc_ne _ (List.append_eq_nil_iff.1 h).1
      have hdec := decode_encode d (Lib.mapD fold (l.drop (Lib.decodeL l).2)) hs
      have hfd : fold (d : Int) = (d : Int) := by rw [← hd]; exact fold_idem _
      rw [hm]
      refine ⟨?_, ?_, ?_, fun _ => hne2⟩
      · rw [List.length_append, hl1, List.length_take]
        rw [List.length_drop] at i1
        omega
      · rw [Lib.validD_step _ hne2, hdec]
        rw [if_neg (fun h => by
          obtain ⟨h1, h2⟩ := h
          simp only at h1 h2
          subst h1
          revert h2
          decide)]
        simp only [List.drop_left]
        exact i2
      · rw [Lib.mapD_step fold _ hne2, hdec]
        simp only
        rw [hfd, if_pos (by omega), List.drop_left, i3]

theorem local_idem {s : ByteArray} (h : (localS s).2 = 0) : localS (localS s).1 = ((localS s).1, 0) := by
  unfold localS at h
  by_cases hw : wordE s (validB s) = 0
  · rw [if_pos hw] at h
    by_cases ha : allB localR (folded s) = true
    · have e1 : localS s = (folded s, 0) := by unfold localS; rw [if_pos hw, if_pos ha]
      rw [e1]
      simp only
      unfold wordE at hw
      split at hw
      · cases hw
      · split at hw
        · cases hw
        · rename_i h1 h2
          simp only [Bool.or_eq_true, Bool.not_eq_true', not_or] at h2
          have hv : Lib.validD s.data.toList = true := by simpa [validB] using h2.2
          obtain ⟨f1, f2, f3, f4⟩ := fold_all _ s.data.toList (Nat.le_refl _) hv
          have hff : folded (folded s) = folded s := by
            unfold folded
            simp only [f3]
          have hne : s.data.toList ≠ [] := by
            intro e
            apply h2.1
            rw [Lib.toList_data, e]; rfl
          have hwf : wordE (folded s) (validB (folded s)) = 0 := by
            unfold wordE
            rw [if_neg (by
              have : (folded s).size = (Lib.mapD fold s.data.toList).length := rfl
              have := size_list s
              omega), if_neg (by
              simp only [Bool.or_eq_true, Bool.not_eq_true', not_or]
              refine ⟨?_, ?_⟩
              · rw [Lib.toList_data]
                intro e
                exact f4 hne (by simpa [folded] using e)
              · unfold validB
                show ¬ Lib.validD (Lib.mapD fold s.data.toList) = false
                rw [f2]; decide)]
          unfold localS
          rw [if_pos hwf, hff, if_pos ha]
    · rw [if_neg ha] at h
      cases h
  · rw [if_neg hw] at h
    exact absurd h hw

/-- A text as its bytes. -/
abbrev bs (l : List UInt8) : ByteArray := ⟨l.toArray⟩
theorem bs_data (s : ByteArray) : bs s.data.toList = s := by cases s; rfl
theorem bs_toList (l : List UInt8) : (bs l).toList = l := by rw [Lib.toList_data]
theorem cut_at (w v : List UInt8) (h : ∀ x ∈ w, x ≠ 32) : cutB (bs (w ++ 32 :: v)) = (bs w, bs v, true) := by
  have hsz : (bs (w ++ 32 :: v)).size = w.length + 1 + v.length := by show (w ++ 32 :: v).length = _; simp; omega
  have hget : ∀ j (hj : j < (bs (w ++ 32 :: v)).size), (bs (w ++ 32 :: v))[j] = (w ++ 32 :: v)[j]'(by have : (bs (w ++ 32 :: v)).size = (w ++ 32 :: v).length := rfl; omega) := fun j hj => rfl
  rw [cutB_hitS (bs (w ++ 32 :: v)) w.length (by omega) (by rw [hget]; simp) (fun j hj hjw => by
    rw [hget, List.getElem_append_left hjw]
    exact h _ (List.getElem_mem _))]
  refine Prod.ext ?_ (Prod.ext ?_ rfl)
  · apply toList_eq
    rw [Lib.toList_data, Lib.toList_data]
    simp
  · apply toList_eq
    rw [Lib.toList_data, Lib.toList_data]
    simp [hsz]
theorem cut_no (w : List UInt8) (h : ∀ x ∈ w, x ≠ 32) : cutB (bs w) = (bs w, ⟨#[]⟩, false) := cutB_missS _ fun j hj => h _ (List.getElem_mem (l := w) (n := j) hj)

def whatL (allow : Bool) : List UInt8 := if allow then [97, 108, 108, 111, 119] else [100, 101, 110, 121]
def wayL (inn out : Bool) : List UInt8 := if inn && out then [98, 111, 116, 104] else if out then [111, 117, 116] else [105, 110]
theorem what_clean (a : Bool) : ∀ x ∈ whatL a, x ≠ 32 := by cases a <;> decide
theorem way_clean (a b : Bool) : ∀ x ∈ wayL a b, x ≠ 32 := by cases a <;> cases b <;> decide
theorem write_list (q : Rule) : writeS q = bs (whatL q.allow ++ 32 :: (wayL q.inn q.out ++ 32 :: (if q.by_.toList == [97, 108, 108] then [97, 108, 108] else q.by_.toList ++ 32 :: q.value.toList))) := by
  apply toList_eq
  rw [bs_toList, Lib.toList_data]
  unfold writeS
  split
  · obtain ⟨a, i, o, b, v⟩ := q
    cases a <;> cases i <;> cases o <;> simp [whatB, wayB, whatL, wayL]
  · obtain ⟨a, i, o, b, v⟩ := q
    cases a <;> cases i <;> cases o <;> simp [whatB, wayB, whatL, wayL, Lib.toList_data]
/-- What is read of a written head. -/
theorem parse_head (a i o : Bool) (t : List UInt8) : parseF (bs (whatL a ++ 32 :: (wayL i o ++ 32 :: t))) =
    parseS (bs (whatL a)) true (bs (wayL i o)) true (cutB (bs t)).1 (cutB (bs t)).2.1 (cutB (bs t)).2.2 (validB (cutB (bs t)).2.1) (localS (cutB (bs t)).2.1).1 (localS (cutB (bs t)).2.1).2 := by
  unfold parseF
  rw [cut_at _ _ (what_clean a)]
  simp only
  rw [cut_at _ _ (way_clean i o)]
theorem parse_good (a i o : Bool) (hio : (i || o) = true) (a3 r3 lv : ByteArray) (f3 valid : Bool) (le : Int) : parseS (bs (whatL a)) true (bs (wayL i o)) true a3 r3 f3 valid lv le = thenRule a i o a3 (valueS a3 r3 f3 valid lv le) := by
  unfold parseS
  simp only [bs_toList]
  cases a <;> cases i <;> cases o <;> first | rfl | exact absurd hio (by decide)
theorem cut_miss {s : ByteArray} (h : (cutB s).2.2 = false) : (cutB s).2.1 = ⟨#[]⟩ := by
  unfold cutB Lib.cut at h ⊢
  split at h
  · cases h
  · rename_i h1
    rw [if_neg h1]
theorem parse_parts {t : ByteArray} {q : Rule} (h : parseF t = .ok q) : ∃ r3 f3, valueS q.by_ r3 f3 (validB r3) (localS r3).1 (localS r3).2 = .ok q.value ∧ (f3 = false → r3 = ⟨#[]⟩) := by
  unfold parseF parseS at h
  split at h
  · split at h
    · cases hv : valueS (cutB (cutB (cutB t).2.1).2.1).1 (cutB (cutB (cutB t).2.1).2.1).2.1 (cutB (cutB (cutB t).2.1).2.1).2.2 (validB (cutB (cutB (cutB t).2.1).2.1).2.1) (localS (cutB (cutB (cutB t).2.1).2.1).2.1).1 (localS (cutB (cutB (cutB t).2.1).2.1).2.1).2 with
      | error c => rw [hv] at h; cases h
      | ok v =>
        rw [hv] at h
        cases h
        exact ⟨_, _, hv, fun e => cut_miss e⟩
    · cases h
  · cases h
/-- A rule that was written reads as itself. -/
theorem parse_write {t : ByteArray} {q : Rule} (h : parseF t = .ok q) : parseF (writeS q) = .ok q := by
  have hio := parseF_way h
  obtain ⟨r3, f3, hv, hf⟩ := parse_parts h
  rw [write_list, parse_head, parse_good _ _ _ hio]
  obtain ⟨a, i, o, b, v⟩ := q
  simp only at hv ⊢
  unfold valueS at hv
  split at hv
  · cases hv
  · rename_i h1
    split at hv
    · rename_i h2
      cases hv
      have hb : b = bs [97, 108, 108] := toList_eq ((eq_of_beq h2).trans (bs_toList _).symm)
      have hf3 : f3 = false := by
        cases f3 with
        | false => rfl
        | true => rw [h2] at h1; exact absurd rfl h1
      rw [hf hf3, if_pos h2, cut_no [97, 108, 108] (by decide)]
      simp only
      unfold valueS
      rw [if_neg (by rw [bs_toList]; decide), if_pos (by rw [bs_toList]; decide), hb]
      rfl
    · rename_i h2
      have hb' : bs b.toList = b := toList_eq (bs_toList _)
      have hv' : bs v.toList = v := toList_eq (bs_toList _)
      have h2' : (b.toList == [97, 108, 108]) = false := by simpa using h2
      rw [if_neg h2]
      have main : ∀ (hc : ∀ x ∈ b.toList, x ≠ 32), valueS b v true (validB v) (localS v).1 (localS v).2 = .ok v → thenRule a i o (cutB (bs (b.toList ++ 32 :: v.toList))).1 (valueS (cutB (bs (b.toList ++ 32 :: v.toList))).1 (cutB (bs (b.toList ++ 32 :: v.toList))).2.1 (cutB (bs (b.toList ++ 32 :: v.toList))).2.2 (validB (cutB (bs (b.toList ++ 32 :: v.toList))).2.1) (localS (cutB (bs (b.toList ++ 32 :: v.toList))).2.1).1 (localS (cutB (bs (b.toList ++ 32 :: v.toList))).2.1).2) = .ok ⟨a, i, o, b, v⟩ := fun hc hval => by
        rw [cut_at _ _ hc]
        simp only
        rw [hb', hv', hval]
        rfl
      split at hv
      · rename_i h3
        have e3 : b.toList = [106, 105, 100] := by simpa using h3
        refine main (by rw [e3]; decide) ?_
        split at hv
        · rename_i h4
          cases hv
          have := local_idem h4
          unfold valueS
          rw [if_neg (by rw [h2']; decide), if_neg h2, if_pos h3, this]
          simp
        · cases hv
      · rename_i h3
        split at hv
        · rename_i h4
          have e4 : b.toList = [103, 114, 111, 117, 112] := by simpa using h4
          refine main (by rw [e4]; decide) ?_
          split at hv
          · rename_i h5
            cases hv
            unfold valueS
            rw [if_neg (by rw [h2']; decide), if_neg h2, if_neg h3, if_pos h4, if_pos h5]
          · cases hv
        · rename_i h4
          split at hv
          · rename_i h5
            cases hv
            have e5 : b.toList = [115, 117, 98] := by
              have := (Bool.and_eq_true _ _ ▸ h5 : _ ∧ _).1
              simpa using this
            refine main (by rw [e5]; decide) ?_
            unfold valueS
            rw [if_neg (by rw [h2']; decide), if_neg h2, if_neg h3, if_neg h4, if_pos h5]
          · cases hv

theorem parseAll_write : ∀ (rs : List Rule), (∀ q ∈ rs, ∃ t, parseF t = .ok q) → parseAll (rs.map refWriteS) = .ok rs
  | [], _ => rfl
  | q :: rs, h => by
    obtain ⟨t, ht⟩ := h q (List.mem_cons_self ..)
    have e : parseF (refWriteS q) = .ok q := by rw [write_same q (parseF_way ht)]; exact parse_write ht
    simp only [List.map_cons, parseAll]
    rw [e, parseAll_write rs (fun r hr => h r (List.mem_cons_of_mem _ hr))]

/-- What stands of the reference's lists beside Twin, so that they can be loaded anew. -/
structure Good (S : RL) : Prop where
  bad : ¬ badB S.most S.rules
  room : (S.rows.length : Int) ≤ S.most
  row : ∀ r ∈ S.rows, (r.rules.length : Int) ≤ S.rules ∧ wordE r.name (validB r.name) = 0
  chose : S.chosen = ⟨#[]⟩ ∨ S.is S.chosen = true
theorem Good.set {L : LS} {S : RL} (h : Good S) (ht : Twin L S) (n : ByteArray) (ts : List ByteArray) : Good (S.set n ts).2 := by
  unfold RL.set
  split
  · rename_i hw
    cases hp : parseAll ts with
    | error e => exact h
    | ok rs =>
      simp only
      split
      · exact h
      · rename_i hc
        obtain ⟨c1, c2⟩ := not_or.1 hc
        have hl := (parseAll_mem hp).1
        refine ⟨h.bad, ?_, fun r hr => ?_, ?_⟩
        · have := Srt.length_put (key := Row.name) (l := S.rows) (x := n) [(⟨n, rs.map refWriteS, rs⟩ : Row)]
          simp only [List.length_cons, List.length_nil] at this
          show ((Srt.put Row.name S.rows n [(⟨n, rs.map refWriteS, rs⟩ : Row)]).length : Int) ≤ S.most
          have hr := h.room
          by_cases hi : Srt.isAt Row.name S.rows n = true
          · rw [if_pos hi] at this; omega
          · rw [if_neg hi] at this
            have : ¬ S.most ≤ (S.rows.length : Int) := fun e => c2 ⟨by simpa using hi, e⟩
            omega
        · rcases (Srt.mem_put ht.sorted).1 hr with h4 | ⟨h4, _⟩
          · simp at h4
            subst h4
            exact ⟨by show (rs.length : Int) ≤ S.rules; omega, hw⟩
          · exact h.row r h4
        · rcases h.chose with e | e
          · exact .inl e
          · right
            have hs2 := (ht.set n ts).2.sorted
            have e2 : (S.set n ts).2 = S.setRow n rs := by
              unfold RL.set
              rw [if_pos hw, hp]
              simp only
              rw [if_neg hc]
            rw [e2] at hs2
            obtain ⟨r, h1, h2⟩ := (Srt.isAt_iff ht.sorted).1 e
            refine (Srt.isAt_iff hs2).2 ?_
            by_cases hn : r.name = n
            · exact ⟨_, (Srt.mem_put ht.sorted).2 (.inl (List.mem_singleton.2 rfl)), by rw [← hn]; exact h2⟩
            · exact ⟨r, (Srt.mem_put ht.sorted).2 (.inr ⟨h1, hn⟩), h2⟩
  · exact h
theorem Good.drop {L : LS} {S : RL} (h : Good S) (ht : Twin L S) (n : ByteArray) : Good (S.drop n).2 := by
  unfold RL.drop
  split
  · exact h
  · split
    · exact h
    · rename_i hne
      refine ⟨h.bad, ?_, fun r hr => ?_, ?_⟩
      · have := Srt.length_put (key := Row.name) (l := S.rows) (x := n) ([] : List Row)
        simp only [List.length_nil] at this
        show ((Srt.put Row.name S.rows n []).length : Int) ≤ S.most
        have hr := h.room
        omega
      · rcases (Srt.mem_put ht.sorted).1 hr with h4 | ⟨h4, _⟩
        · cases h4
        · exact h.row r h4
      · rcases h.chose with e | e
        · exact .inl e
        · right
          obtain ⟨r, h1, h2⟩ := (Srt.isAt_iff ht.sorted).1 e
          exact (Srt.isAt_iff (Srt.sorted_del ht.sorted)).2 ⟨r, (Srt.mem_put ht.sorted).2 (.inr ⟨h1, fun e => hne (by rw [← h2, e])⟩), h2⟩
theorem Good.deflt {S : RL} (h : Good S) (n : ByteArray) : Good (S.deflt n).2 := by
  unfold RL.deflt
  split
  · exact h
  · rename_i hc
    refine ⟨h.bad, h.room, h.row, ?_⟩
    by_cases hn : n = ⟨#[]⟩
    · exact .inl hn
    · right
      have : ¬ S.is n = false := fun e => hc ⟨hn, e⟩
      simpa using this
theorem Good.new {a b : Int} (h : ¬ badB a b) : Good (RL.new a b) := ⟨h, by unfold badB at h; show (0 : Int) ≤ a; omega, fun r hr => (by cases hr), .inl rfl⟩

theorem reload_upto {L : LS} {S : RL} (h : Good S) (ht : Twin L S) : ∀ k, k ≤ S.rows.length → uptoR (RL.new S.most S.rules) (S.rows.map (·.name)) (S.rows.map (·.texts)) k = some ⟨S.most, S.rules, ⟨#[]⟩, S.rows.take k⟩
  | 0, _ => by simp [uptoR]
  | k + 1, hk => by
    have hkl : k < S.rows.length := hk
    obtain ⟨r, hr⟩ : ∃ r, S.rows[k]? = some r := ⟨_, List.getElem?_eq_getElem hkl⟩
    have hrm := List.mem_of_getElem? hr
    have hrg : S.rows[k] = r := by rw [List.getElem?_eq_getElem hkl] at hr; exact Option.some.inj hr
    obtain ⟨hr1, hr2⟩ := ht.right r hrm
    obtain ⟨hr3, hr4⟩ := h.row r hrm
    have hn : (S.rows.map (·.name))[k]? = some r.name := by rw [List.getElem?_map, hr]; rfl
    have htx : (S.rows.map (·.texts))[k]? = some r.texts := by rw [List.getElem?_map, hr]; rfl
    have hlt : ∀ j q, j < k → S.rows[j]? = some q → Srt.ltS q.name r.name = true := fun j q hj hq => by
      have hjl : j < S.rows.length := by omega
      have := List.pairwise_iff_getElem.1 ht.sorted j k hjl hkl hj
      rw [hrg] at this
      rw [List.getElem?_eq_getElem hjl] at hq
      rw [Option.some.inj hq] at this
      exact this
    have htl : (S.rows.take k).length = k := by rw [List.length_take]; omega
    have hpos : Srt.pos Row.name (S.rows.take k) r.name = k := Srt.pos_eq (by omega) (fun j q hj hq => hlt j q hj (by rw [List.getElem?_take, if_pos hj] at hq; exact hq)) (fun q hq => by rw [List.getElem?_take, if_neg (by omega)] at hq; cases hq)
    have his : Srt.isAt Row.name (S.rows.take k) r.name = false := by
      unfold Srt.isAt
      rw [hpos, List.getElem?_take, if_neg (by omega)]
    have hpa : parseAll r.texts = .ok r.rules := by rw [hr1]; exact parseAll_write r.rules hr2
    have htlen : r.texts.length = r.rules.length := by rw [hr1, List.length_map]
    have hset : RL.set ⟨S.most, S.rules, ⟨#[]⟩, S.rows.take k⟩ r.name r.texts = (0, ⟨S.most, S.rules, ⟨#[]⟩, S.rows.take (k + 1)⟩) := by
      unfold RL.set
      rw [if_pos hr4, hpa]
      simp only
      have hroom := h.room
      rw [if_neg (not_or.2 ⟨by rw [htlen]; omega, fun e => by have := e.2; rw [htl] at this; omega⟩)]
      unfold RL.setRow Srt.put Srt.rest
      simp only
      rw [his, hpos]
      have e1 : (⟨r.name, r.rules.map refWriteS, r.rules⟩ : Row) = r := by rw [← hr1]
      rw [e1, take_snoc hr]
      simp [List.take_of_length_le, htl]
    have hup : notUp (prevN (S.rows.map (·.name)) k) r.name = false := by
      unfold prevN notUp
      by_cases h0 : k = 0
      · rw [if_pos h0]
      · rw [if_neg h0, List.getElem?_map]
        obtain ⟨q, hq⟩ : ∃ q, S.rows[k - 1]? = some q := ⟨_, List.getElem?_eq_getElem (by omega)⟩
        rw [hq]
        simp only [Option.map_some]
        rw [hlt (k - 1) q (by omega) hq]
        rfl
    have hok : txOk r.texts := (parseAll_iff r.texts).1 ⟨r.rules, hpa, hr1.symm⟩
    simp only [uptoR, reload_upto h ht k (by omega), hn, htx]
    rw [stepR_some hup hr4 (by show ¬ S.rules < (r.texts.length : Int); rw [htlen]; omega) hok (by rw [hset]), hset]
/-- The reference's lists, loaded from what they are told as. -/
theorem reload_self {L : LS} {S : RL} (h : Good S) (ht : Twin L S) : RL.load ⟨S.most, S.rules, S.chosen, S.rows.map (·.name), S.rows.map (·.texts)⟩ = some S := by
  unfold RL.load
  simp only
  have hroom := h.room
  rw [if_neg (not_or.2 ⟨h.bad, not_or.2 ⟨by rw [List.length_map]; omega, fun e => e (by simp)⟩⟩), List.length_map, reload_upto h ht _ (Nat.le_refl _), List.take_length]
  unfold RL.fin RL.deflt
  simp only
  have hc : ¬ (S.chosen ≠ ⟨#[]⟩ ∧ RL.is ⟨S.most, S.rules, ⟨#[]⟩, S.rows⟩ S.chosen = false) := fun e => by
    rcases h.chose with e1 | e1
    · exact e.1 e1
    · have e2 := e.2
      unfold RL.is at e1 e2
      simp only at e2
      rw [e1] at e2
      cases e2
  rw [if_neg hc]
  rfl
/-- The program's lists, loaded from what they are told as, hold what they held. -/
theorem reload_same {L : LS} {S : RL} (h : Good S) (ht : Twin L S) : ∃ L', LS.load ⟨S.most, S.rules, S.chosen, S.rows.map (·.name), S.rows.map (·.texts)⟩ = some L' ∧ Twin L' S := by
  rcases load_same ⟨S.most, S.rules, S.chosen, S.rows.map (·.name), S.rows.map (·.texts)⟩ with ⟨_, e⟩ | ⟨L', S', h1, h2, h3⟩
  · rw [reload_self h ht] at e; cases e
  · rw [reload_self h ht] at h2
    cases h2
    exact ⟨L', h1, h3⟩

/-- What was loaded is good. -/
theorem upto_good {a b : Int} (hb : ¬ badB a b) {ns : List ByteArray} {tss : List (List ByteArray)} : ∀ {k : Nat} {S : RL}, uptoR (RL.new a b) ns tss k = some S → Good S
  | 0, S, h => by cases h; exact Good.new hb
  | k + 1, S, h => by
    have ha : 0 ≤ a := by unfold badB at hb; omega
    simp only [uptoR] at h
    split at h
    · rename_i S0 n ts h1 h2 h3
      obtain rfl := stepR_keeps h
      rcases upto_same (b := b) ha ns tss k with ⟨_, e⟩ | ⟨L, S', _, e, h3, _⟩
      · rw [h1] at e; cases e
      · rw [h1] at e
        cases e
        exact (upto_good hb h1).set h3.twin n ts
    · cases h
theorem load_good {s : ShD} {S : RL} (h : RL.load s = some S) : Good S := by
  unfold RL.load at h
  split at h
  · cases h
  · rename_i hb
    unfold RL.fin at h
    split at h
    · cases h
    · rename_i S0 hu
      split at h
      · cases h
        exact (upto_good (not_or.1 hb).1 hu).deflt _
      · cases h

theorem Good.way {L : LS} {S Y : RL} (h : Good S) (ht : Twin L S) (hw : Way17 S Y) : Good Y := by
  rcases hw with rfl | ⟨n, ts, rfl⟩ | ⟨n, rfl⟩ | ⟨n, rfl⟩
  · exact h
  · exact h.set ht n ts
  · exact h.drop ht n
  · exact h.deflt n
theorem written_size {t : ByteArray} {q : Rule} (h : parseF t = .ok q) : (refWriteS q).size ≤ q.value.size + 30 := by
  rw [write_same q (parseF_way h), write_list]
  have hb := parseF_byle5 h
  have e1 : q.by_.toList.length = q.by_.size := by rw [Lib.toList_data, size_list]
  have e2 : q.value.toList.length = q.value.size := by rw [Lib.toList_data, size_list]
  show (_ : List UInt8).length ≤ _
  have h1 : (whatL q.allow).length ≤ 5 := by cases q.allow <;> decide
  have h2 : (wayL q.inn q.out).length ≤ 4 := by cases q.inn <;> cases q.out <;> decide
  split <;> simp <;> omega
theorem rows_texts {L : LS} {S : RL} (ht : Twin L S) (hr : RowsOk S) : (∀ n ∈ S.rows.map (·.name), n.size ≤ 1000000) ∧ ∀ ts ∈ S.rows.map (·.texts), ts.length ≤ 1000000 ∧ ∀ t ∈ ts, t.size ≤ 1000000 := by
  refine ⟨fun n hn => ?_, fun ts hts => ?_⟩
  · obtain ⟨r, h1, rfl⟩ := List.mem_map.1 hn
    have := (hr r h1).1
    omega
  · obtain ⟨r, h1, rfl⟩ := List.mem_map.1 hts
    refine ⟨by have := (hr r h1).2.1; omega, fun t h2 => ?_⟩
    rw [(ht.right r h1).1] at h2
    obtain ⟨q, h3, rfl⟩ := List.mem_map.1 h2
    obtain ⟨t, h4⟩ := (ht.right r h1).2 q h3
    have := written_size h4
    have := (hr r h1).2.2.2 q h3
    omega
end Go.Proofs.YthbjcihdlhkboaaGreatDoor

namespace Go.Proofs.YthbjcihdlhkboaaGreatDoor
set_option linter.unusedSimpArgs false
set_option linter.unusedVariables false
open Go.RowKit Go.Maps Go.Shelf Go.Lib

set_option maxRecDepth 100000 in
set_option maxHeartbeats 16000000 in
theorem privload_any (w : World) (hT : Tabs w) (s : ShD) (vn vt : Value) (hn : Strs w vn s.names) (ht : TabS w vt s.texts) (hd : s.deflt.size ≤ maxLen) (A : Option Addr) (L cap : Nat) (E : Nat → Opv) (hops : OpvAt w A L E) (hL : L ≤ 9223372036854775807) :
    Calls Tryz.prog 6 #[.agg #[.int .i64 s.lists, .int .i64 s.rules, .string s.deflt, vn, vt], .slice A L cap] w fun e w' => e = .returned (.bool true) ∧ Below w.heap.size w w' := by
  obtain ⟨c, hc⟩ : ∃ c, s.cut = c := ⟨_, rfl⟩
  have hck := s.cut_ok
  have LB := load_both s.cut (by exact hck.2.1) (fun ts h => ⟨by have := (hck.2.2.2 ts h).1; omega, fun t ht => by have := (hck.2.2.2 ts h).2 t ht; omega⟩)
  have CT := fun W (hb : Below w.heap.size w W) => twin17_any W s.lists s.rules s.deflt vn vt s.names s.texts (hn.below hb) (ht.below hb)
  have CL := fun W vn' vt' (h1 : Strs W vn' s.cut.names) (h2 : TabS W vt' s.cut.texts) (hb : Below w.heap.size w W) => load17_any W s.cut vn' vt' h1 h2 (hT.later hb) (fun n h => by have := hck.2.1 n h; omega) (by have := hck.1; omega) (fun ts h => ⟨by have := (hck.2.2.2 ts h).1; omega, fun t ht => by have := (hck.2.2.2 ts h).2 t ht; omega⟩) (by exact hd)
  have CR := fun W vn' vt' (h1 : Strs W vn' s.cut.names) (h2 : TabS W vt' s.cut.texts) => rload17_any W s.cut vn' vt' h1 h2 (fun n h => by have := hck.2.1 n h; omega) (by have := hck.1; omega) (fun ts h => ⟨by have := (hck.2.2.2 ts h).1; omega, fun t ht => by have := (hck.2.2.2 ts h).2 t ht; omega⟩)
  have e1 : cutAll s.names 20 80 = c.names := by rw [← hc]; rfl
  have e2 : cutTab s.texts 20 = c.texts := by rw [← hc]; rfl
  have e3 : s.cut.lists = s.lists ∧ s.cut.rules = s.rules ∧ s.cut.deflt = s.deflt := ⟨rfl, rfl, rfl⟩
  rw [e1, e2] at CT
  rw [e3.1, e3.2.1, e3.2.2] at CL CR
  rw [hc] at LB CL CR hck
  obtain ⟨a, ha⟩ : ∃ a, s.lists = a := ⟨_, rfl⟩
  obtain ⟨b, hb⟩ : ∃ b, s.rules = b := ⟨_, rfl⟩
  obtain ⟨d, hdd⟩ : ∃ d, s.deflt = d := ⟨_, rfl⟩
  rw [ha, hb, hdd] at CT CL CR ⊢
  obtain ⟨AN, cN, rfl⟩ : ∃ A c, vn = .slice A s.names.length c := let ⟨⟨A, cap, h, _⟩, _⟩ := hn; ⟨A, cap, h⟩
  obtain ⟨AT, cT, rfl, _⟩ := id ht
  have hcl := And.intro hck.2.2.1 hck.1
  have HCT := Lib.hid CT
  have HCL := Lib.hid CL
  have HCR := Lib.hid CR
  have HLB := Lib.hid LB
  have HT := Lib.hid hT
  have HO := Lib.hid hops
  have HCK := Lib.hid hcl
  obtain ⟨nn, hnn⟩ : ∃ n, s.names.length = n := ⟨_, rfl⟩
  obtain ⟨nt, hnt⟩ : ∃ n, s.texts.length = n := ⟨_, rfl⟩
  rw [hnn, hnt] at HCT ⊢
  clear CT CL CR LB hck hn ht hd hops hT hc e1 e2 e3 ha hb hdd hcl hnn hnt
  obtain ⟨W1, hW1⟩ : ∃ W, w.alloc (.cells #[.int .i64 a, .int .i64 b, .string d, .slice AN nn cN, .slice AT nt cT] 38) = W := ⟨_, rfl⟩
  have hb1 : Below w.heap.size w W1 := by rw [← hW1]; exact (Below.refl _ _).alloc (Nat.le_refl _) _
  have hx1 : W1.heap[w.heap.size]? = some (shC a b d (.slice AN nn cN) (.slice AT nt cT)) := by rw [← hW1]; exact blk_new _ _
  have HW1 := Lib.hid (And.intro hb1 (And.intro hx1 hW1))
  clear hb1 hx1 hW1
  go_enter Tryz.func6, Tryz.ntmps6
  go_wp2_with fail
  rw [HW1.out.2.2]
  refine (HCT.out W1 HW1.out.1).mono ?_
  rintro e w2 ⟨vn2, vt2, rfl, hn2, ht2, hb2⟩
  have hbw2 : Below w.heap.size w w2 := HW1.out.1.trans (hb2.mono HW1.out.1.size)
  have x2 := blk_below HW1.out.2.1 hb2 (blk_lt HW1.out.2.1)
  have H2 := Lib.hid (And.intro hn2 (And.intro ht2 (And.intro hbw2 x2)))
  clear hn2 ht2 hb2 hbw2 x2
  go_wp2_with fail
  refine (HCL.out w2 _ _ (txt_strs H2.out.1) (TabQ.tabS H2.out.2.1) H2.out.2.2.1).mono ?_
  rintro e w3 ⟨hb3, hres⟩
  have hbw3 : Below w.heap.size w w3 := H2.out.2.2.1.trans (hb3.mono H2.out.2.2.1.size)
  have x3 := blk_below H2.out.2.2.2 hb3 (blk_lt H2.out.2.2.2)
  obtain ⟨y0, y1, y2, y3, y4, _⟩ := shCells x3
  have z3 : w.heap.size < w3.heap.size := blk_lt x3
  have H3 := Lib.hid (And.intro hbw3 x3)
  clear hbw3 x3 hb3
  rcases HLB.out with ⟨n1, n2⟩ | ⟨X0, S0, s1, s2, htw, hrows, hlen⟩
  · rcases hres with ⟨_, rfl⟩ | ⟨L', lb, mb, n, D, e0, _⟩
    · go_wp2_with fail
      refine (HCT.out w3 H3.out.1).mono ?_
      rintro e w4 ⟨vn5, vt5, rfl, hn5, ht5, hb5⟩
      have H4 := Lib.hid (And.intro hn5 (And.intro ht5 (H3.out.1.trans (hb5.mono H3.out.1.size))))
      clear hn5 ht5 hb5 y0 y1 y2 y3 y4
      go_wp2_with fail
      refine (HCR.out w4 _ _ (txt_strs H4.out.1) (TabQ.tabS H4.out.2.1)).mono ?_
      rintro e w5 ⟨hb6, hres6⟩
      have H5 := Lib.hid (H4.out.2.2.trans (hb6.mono H4.out.2.2.size))
      clear hb6
      rcases hres6 with ⟨_, rfl⟩ | ⟨S', qb, e0, _⟩
      · go_wp2_with fail
        refine (wakes17_any _ (HT.out.later H5.out)).mono ?_
        rintro e w6 ⟨rfl, hb6⟩
        have H6 := Lib.hid (H5.out.trans (hb6.mono H5.out.size))
        clear hb6
        go_wp2_with fail
        go_ret
        exact ⟨rfl, H6.out⟩
      · rw [n2] at e0; cases e0
    · rw [n1] at e0; cases e0
  · rcases hres with ⟨e0, _⟩ | ⟨L', lb, mb, n, D, e0, rfl, hnl, hl4⟩
    · rw [s1] at e0; cases e0
    · rw [s1] at e0
      cases e0
      have HP := Lib.hid hl4
      clear hl4
      go_wp2_with fail
      refine (HCT.out w3 H3.out.1).mono ?_
      rintro e w4 ⟨vn5, vt5, rfl, hn5, ht5, hb5⟩
      have H4 := Lib.hid (And.intro hn5 (And.intro ht5 (And.intro (H3.out.1.trans (hb5.mono H3.out.1.size)) (HP.out.below hb5))))
      clear hn5 ht5 hb5 y0 y1 y2 y3 y4 HP
      go_wp2_with fail
      refine (HCR.out w4 _ _ (txt_strs H4.out.1) (TabQ.tabS H4.out.2.1)).mono ?_
      rintro e w5 ⟨hb6, hres6⟩
      rcases hres6 with ⟨e0, _⟩ | ⟨S', qb, e0, rfl, hr6⟩
      · rw [s2] at e0; cases e0
      · rw [s2] at e0
        cases e0
        have hP : PEx w w5 lb mb qb X0 S0 20 :=
          { below := H4.out.2.2.1.trans (hb6.mono H4.out.2.2.1.size)
            prog := ⟨n, D, by have := HCK.out.2; omega, (H4.out.2.2.2.below hb6).lower H2.out.2.2.1.size⟩
            ref := hr6.lower H4.out.2.2.1.size
            twin := htw
            rows := hrows
            len := by have := HCK.out.2; omega }
        have HM0 := Lib.hid (And.intro hP (load_good s2))
        clear hP hb6 hr6 htw hrows hlen hnl s1 s2
        go_wp2_with fail
        refine (wakes17_any _ (HT.out.later HM0.out.1.below)).mono ?_
        rintro e w6 ⟨rfl, hb6⟩
        have HM3 := Lib.hid (And.intro (HM0.out.1.call hb6) HM0.out.2)
        clear hb6 HM0
        go_wp2_with fail
        go_loopg [5, 9] (min L 120) (fun g s5 s9 wx => ∃ (k : Nat) (X : LS) (Y : RL) (lb mb : Nat), k ≤ min L 120 ∧ g = min L 120 - k ∧ s5 = .pointer (some ⟨lb, 0, none⟩) ∧ s9 = .int .i64 k ∧ PEx w wx lb mb qb X Y (20 + k) ∧ Good Y)
        case atStart => exact ⟨0, _, _, lb, mb, Nat.zero_le _, rfl, rfl, rfl, HM3.out.1, HM3.out.2⟩
        case round =>
          clear HM3
          obtain ⟨k, X, Y, lb, mb, hk, hgk, rfl, rfl, hm, hgd⟩ := hrel
          have HM := Lib.hid hm
          have HGD := Lib.hid hgd
          have HK := Lib.hid (And.intro hk hgk)
          clear hm hgk hgd
          have hw : IntKind.i64.wrap ((k : Int) + 1) = (k : Int) + 1 := IntWalk.i64_in _ (by omega)
          have t0 : (0 : Int) ≤ (k : Int) := by omega
          by_cases hlt : k < L ∧ k < 120
          · have t1 : decide ((k : Int) < (L : Int)) = true := by simpa using hlt.1
            have t1b : (k : Int) < (L : Int) := by omega
            have t2 : decide ((k : Int) < 120) = true := by simp; omega
            obtain ⟨ab, ao, rfl, hab, hops⟩ := HO.out.at_ (by omega)
            obtain ⟨hcl, hst, hsg⟩ := hops k hlt.1
            obtain ⟨o, ho⟩ : ∃ o, E k = o := ⟨_, rfl⟩
            rw [ho] at hcl hst hsg
            have hb := HM.out.below
            have cc : ∀ j, j < 7 → wr.cell? ⟨ab, ao + k * 7 + j, none⟩ = o.cells[j]? := fun j hj => (hb.cell hab).trans (hcl j hj)
            have C := plays_any HM.out (HT.out.later hb) (by omega) o hst hsg
            have HC := Lib.hid C
            obtain ⟨act, name, tv, texts, inn, contact, gv, groups, sub⟩ := o
            have c0 : wr.cell? ⟨ab, ao + k * 7, none⟩ = some (.int .i64 act) := cc 0 (by omega)
            have c1 : wr.cell? ⟨ab, ao + k * 7 + 1, none⟩ = some (.string name) := cc 1 (by omega)
            have c2 : wr.cell? ⟨ab, ao + k * 7 + 2, none⟩ = some tv := cc 2 (by omega)
            have c3 : wr.cell? ⟨ab, ao + k * 7 + 3, none⟩ = some (.bool inn) := cc 3 (by omega)
            have c4 : wr.cell? ⟨ab, ao + k * 7 + 4, none⟩ = some (.string contact) := cc 4 (by omega)
            have c5 : wr.cell? ⟨ab, ao + k * 7 + 5, none⟩ = some gv := cc 5 (by omega)
            have c6 : wr.cell? ⟨ab, ao + k * 7 + 6, none⟩ = some (.string sub) := cc 6 (by omega)
            have HLT := Lib.hid hlt
            clear C cc hb hcl hst hsg hops ho hlt
            go_wp2_with fail
            refine HC.out.mono ?_
            rintro e w4 ⟨rfl, X', Y', hm4, hway⟩
            have H4 := Lib.hid (And.intro hm4 (HGD.out.way HM.out.twin hway))
            clear hm4 hway HC c0 c1 c2 c3 c4 c5 c6
            have hmod : (k : Int) % 4 = ((k % 4 : Nat) : Int) := by omega
            by_cases hk3 : k % 4 = 3
            · have t4 : ((k : Int) % 4 == 3) = true := by rw [hmod, hk3]; rfl
              clear hmod hk3
              go_wp2_with fail
              refine (shelf_law H4.out.1 (by omega)).mono ?_
              rintro e w5 ⟨vn1, vt1, rfl, hn1, ht1, hb5⟩
              have H5 := Lib.hid (And.intro hn1 (And.intro ht1 (H4.out.1.call hb5)))
              clear hn1 ht1 hb5
              have hrt := rows_texts H4.out.1.twin H4.out.1.rows
              have hlr : Y'.rows.length ≤ 20 + k + 1 := H4.out.1.len
              obtain ⟨XX, hX1, hX2⟩ := reload_same H4.out.2 H4.out.1.twin
              have C5 := load17_any w5 ⟨Y'.most, Y'.rules, Y'.chosen, Y'.rows.map (·.name), Y'.rows.map (·.texts)⟩ vn1 vt1 (txt_strs H5.out.1) (TabQ.tabS H5.out.2.1) (HT.out.later H5.out.2.2.below) hrt.1 (by simp only [List.length_map]; omega) hrt.2 (by
                obtain ⟨n5, D5, _, hl5⟩ := H5.out.2.2.prog
                have := hl5.chose
                rw [H4.out.1.twin.chosen] at this
                exact this)
              rw [hX1] at C5
              simp only at C5
              rw [← H4.out.1.twin.most, ← H4.out.1.twin.rules, ← H4.out.1.twin.chosen] at C5
              have HC5 := Lib.hid C5
              have HX2 := Lib.hid hX2
              clear C5 hrt hX1 hX2
              go_wp2_with fail
              refine HC5.out.mono ?_
              rintro e w6 ⟨hb6, hres⟩
              rcases hres with ⟨e0, _⟩ | ⟨L6, lb6, mb6, n6, D6, e0, rfl, hn6, hl6⟩
              · cases e0
              · cases e0
                have hP : PEx w w6 lb6 mb6 qb XX Y' (20 + (k + 1)) :=
                  { below := H5.out.2.2.below.trans (hb6.mono H5.out.2.2.below.size)
                    prog := ⟨n6, D6, by simp only [List.length_map] at hn6; omega, hl6.lower H5.out.2.2.below.size⟩
                    ref := H5.out.2.2.ref.below hb6
                    twin := HX2.out
                    rows := H4.out.1.rows
                    len := by omega }
                have HP6 := Lib.hid hP
                clear hP hb6 hn6 hl6
                go_wp2_with fail
                go_roundg (min L 120 - (k + 1))
                case measure => have := HK.out; have := HLT.out; omega
                case rel => exact ⟨k + 1, _, _, lb6, mb6, by have := HLT.out; omega, rfl, rfl, by go_num, HP6.out, H4.out.2⟩
            · have t4 : ((k : Int) % 4 == 3) = false := by rw [beq_eq_false_iff_ne]; omega
              clear hmod hk3
              go_wp2_with fail
              go_roundg (min L 120 - (k + 1))
              case measure => have := HK.out; have := HLT.out; omega
              case rel => exact ⟨k + 1, _, _, lb, mb, by have := HLT.out; omega, rfl, rfl, by go_num, H4.out.1, H4.out.2⟩
          · have hrest : (k < L ∧ ¬ k < 120) ∨ ¬ k < L := by omega
            have hk1 : 20 + k ≤ 1000 := by omega
            clear hlt
            rcases hrest with ⟨h1, h2⟩ | h1
            · have t1 : decide ((k : Int) < (L : Int)) = true := by simpa using h1
              have t2 : decide ((k : Int) < 120) = false := by simp; omega
              have t3 : ¬ (k : Int) < 120 := by omega
              go_wp2_with fail
              refine (shelf_law HM.out hk1).mono ?_
              rintro e w5 ⟨vn1, vt1, rfl, hn1, ht1, hb5⟩
              have H5 := Lib.hid (And.intro hn1 (And.intro ht1 (HM.out.call hb5)))
              clear hn1 ht1 hb5
              go_wp2_with fail
              refine (rshelf_law H5.out.2.2 hk1).mono ?_
              rintro e w6 ⟨vn2, vt2, rfl, hn2, ht2, hb6⟩
              have C6 := sameSh_true X.most X.rules X.chosen vn1 vt1 vn2 vt2 _ _ (Seq.below H5.out.1 hb6 (fun j hj => (Seq.lt H5.out.1 j hj).2)) hn2 (TabQ.below H5.out.2.1 hb6) ht2 (by rw [List.length_map]; have := H5.out.2.2.len; omega)
              have H6 := Lib.hid (H5.out.2.2.call hb6)
              have HC6 := Lib.hid C6
              clear hn2 ht2 hb6 C6 H5
              go_wp2_with fail
              refine HC6.out.mono ?_
              rintro e w7 ⟨rfl, hb7⟩
              have H7 := Lib.hid (H6.out.call hb7)
              clear hb7 HC6 H6
              go_wp2_with fail
              go_ret
              exact ⟨rfl, H7.out.below⟩
            · have t1 : decide ((k : Int) < (L : Int)) = false := by simpa using h1
              go_wp2_with fail
              refine (shelf_law HM.out hk1).mono ?_
              rintro e w5 ⟨vn1, vt1, rfl, hn1, ht1, hb5⟩
              have H5 := Lib.hid (And.intro hn1 (And.intro ht1 (HM.out.call hb5)))
              clear hn1 ht1 hb5
              go_wp2_with fail
              refine (rshelf_law H5.out.2.2 hk1).mono ?_
              rintro e w6 ⟨vn2, vt2, rfl, hn2, ht2, hb6⟩
              have C6 := sameSh_true X.most X.rules X.chosen vn1 vt1 vn2 vt2 _ _ (Seq.below H5.out.1 hb6 (fun j hj => (Seq.lt H5.out.1 j hj).2)) hn2 (TabQ.below H5.out.2.1 hb6) ht2 (by rw [List.length_map]; have := H5.out.2.2.len; omega)
              have H6 := Lib.hid (H5.out.2.2.call hb6)
              have HC6 := Lib.hid C6
              clear hn2 ht2 hb6 C6 H5
              go_wp2_with fail
              refine HC6.out.mono ?_
              rintro e w7 ⟨rfl, hb7⟩
              have H7 := Lib.hid (H6.out.call hb7)
              clear hb7 HC6 H6
              go_wp2_with fail
              go_ret
              exact ⟨rfl, H7.out.below⟩
end Go.Proofs.YthbjcihdlhkboaaGreatDoor

namespace Go.Proofs.YthbjcihdlhkboaaGreatDoor
set_option linter.unusedSimpArgs false
set_option linter.unusedVariables false
open Go.RowKit Go.Maps Go.Shelf Go.Lib Go.ChangeShapes Go.WideShapes Go.ChangeAt

set_option maxRecDepth 100000 in
theorem privload_lifted (os : Os) (started : os.Started) (H : Type) (enc : TypeId × Value → H) :
    ReturnsInHanded {} Tryz.checked os 6 .any (fun w args => (Rows.privacyLoadSpec.pre enc Tryz.prog Tryz.f6 [] false w args ∧ laidMetH Tryz.prog laidHere w) ∧ sizedMet enc Tryz.prog Tryz.f6 (OpenSpec.ofChange Rows.privacyLoadSpec) false w args)
      (Rows.privacyLoadSpec.post enc Tryz.prog Tryz.f6 false true false false) := by
  refine handed_laid (C := Tryz.checked) (X := fun w _ => laidMetH Tryz.prog laidHere w) (fun _ _ _ hh h => h.of_heap hh) rows_own started (by kernel_rfl) Tryz.func6
    (ChangeSpec.witness_shaped (enc := enc) (C := Tryz.checked) (os := os) (X := fun w _ => laidMetH Tryz.prog laidHere w) false (World.laidAll Tryz.prog os laidHere) #[.agg #[.int .i64 0, .int .i64 0, .string ⟨#[]⟩, .slice none 0 0, .slice none 0 0], .slice none 0 0] 8 (World.laidAll_os _ _ _)
      (World.shaped_of_ZipB (by kernel_rfl) (by kernel_rfl)) (by kernel_rfl) (by kernel_rfl) (by kernel_rfl)
      (by rw [MakeChecks.laidMetH_plain _ _ _ (by kernel_rfl)]; exact laidMet_laidAll _ (by kernel_rfl) (by kernel_rfl))) ?_
  intro W base args ds gs before hval0 hW hL hsh
  have hval : ∀ (j : Nat) t v, Tryz.f6.params[j]? = some t → args[j]? = some v → Value.okWide Tryz.prog W .any base t v := hval0
  have hA : ∃ p, DataW.TrodAll enc Tryz.prog W 0 (fun _ => true) true Tryz.f6.params.toList args.toList ds p := by obtain ⟨p, _, h, _⟩ := hW; exact ⟨p, h⟩
  obtain ⟨p, hA⟩ := hA
  rw [Tryz.params6] at hA hval
  obtain ⟨v0, v1, d0, d1, _, _, rfl, rfl, _, h0, h1⟩ := trodAll_two hA
  have hg : gs = [] := by obtain ⟨_, q, _, h, _⟩ := hW; exact (trodVars_none h).1
  subst hg
  have hT := tabs_of_laid hL hsh
  obtain ⟨s, vn, vt, rfl, hn, ht, hd⟩ := shelf_arg (hval 0 38 v0 rfl rfl) h0
  obtain ⟨A, L, cap, E, rfl, hst, hL⟩ := opsv_form (hval 1 22 v1 rfl rfl) h1
  refine (privload_any W hT s vn vt hn ht hd A L cap E hst hL).mono fun e W' ⟨he, hb⟩ => ?_
  subst he
  exact ⟨_, rfl, law_post rows_laidOut rfl Tryz.underlying4 (by rw [Tryz.params6]; intro t ht; simp at ht; rcases ht with rfl | rfl <;> exact ⟨by kernel_rfl, of_decide_eq_true (by kernel_rfl)⟩) rfl ⟨rfl, rfl, rfl⟩ hW hb⟩

theorem privload_row : Rows.PrivacyLoadSaid :=
  OpenClaim.holds_of_wide 6 Tryz.f6 rfl rfl rfl rfl rfl rfl rfl ⟨rfl, rfl, rfl, rfl, rfl⟩ rfl rfl rfl rfl rfl (by kernel_rfl) Tryz.func6 (by kernel_rfl)
    (of_decide_eq_true (by kernel_rfl)) (by unfold Func.isWrapper; first | (rw [if_pos (by decide +kernel)]; kernel_rfl) | (rw [if_neg (by decide +kernel)]; exact ⟨rfl, rfl⟩))
    (fun os started H enc _ => privload_lifted os started H enc)

theorem privload_holds : Rows.PrivacyLoadCardSaid :=
  Claim7.holds_tied_plain_at .later [] [.data, .pinned] true (true, "c44359c1ebedc616dc5b2b5a8e88dac0f5b6d47266708ae989aeef21589dab81") true privload_row (fun _ h => by cases h) (by kernel_rfl) (fun _ h => by cases h) privacyLoad_row_tie rfl ⟨rfl, rfl⟩ (by kernel_rfl) rfl
    (fun f fn hf hfn => by
      obtain rfl : f = 6 := Option.some.inj ((show Tryz.prog.funcNamed "roost/roostlaw17.PrivacyLoad" = some 6 by kernel_rfl).symm.trans hf) |>.symm
      obtain rfl : fn = Tryz.f6 := (Option.some.inj (Tryz.func6.symm.trans hfn)).symm
      exact ⟨by kernel_rfl, fun j t ht => by
        rw [Tryz.params6] at ht
        have hm : t ∈ [38, 22] := by simpa using Array.mem_of_getElem? ht
        have hall : ([38, 22].all fun u => !Tryz.prog.wantsStandIn u) = true := by kernel_rfl
        exact (show Tryz.prog.wantsStandIn t = false by simpa using List.all_eq_true.1 hall t hm)⟩)
    (by kernel_rfl)
#print axioms privload_holds
end Go.Proofs.YthbjcihdlhkboaaGreatDoor
