/- For every shelf and all texts PrivacyOwn answers true, and its arguments are left as they were: no condition; the library's two tables hold what the program's text lays, tied by the card. -/
import Derived.Test.YthbjcihdlhkboaaGreatDoorPl1
import Derived.Test.YthbjcihdlhkboaaGreatDoorRow
import Derived.Deep.Slices
import Derived.Test.YthbjcihdlhkboaaGreatDoorRows
import Derived.Test.YthbjcihdlhkboaaGreatDoorTie
import Derived.Test.YthbjcihdlhkboaaGreatDoorCards
import Derived.Test.YthbjcihdlhkboaaGreatDoorPl5
import Derived.SevenTiedAt
namespace Go.Proofs.YthbjcihdlhkboaaGreatDoor
set_option linter.unusedSimpArgs false
set_option linter.unusedVariables false
open Go.RowKit Go.Maps Go.Shelf Go.Lib Go.ChangeShapes Go.WideShapes Go.ChangeAt

set_option maxRecDepth 100000 in
theorem tab_of_trod {H : Type} {enc : TypeId × Value → H} {W : World} {fuel : Nat} {x : DataW H × List MemPlace} {v : Value} (hf : DataW.trod enc Tryz.prog W 0 (fun _ => true) true fuel 36 [v] = some x) : ∃ tss, TabS W v tss := by
  have hcs : Tryz.prog.cellsOf 32 = 1 := by kernel_rfl
  rcases Deep.open_slice Tryz.underlying36 hf with ⟨he, _⟩ | ⟨a, len, cap, m, n, D, Pl, he, _, hlc, hcm, hm, hx, hel⟩
  · simp at he
    subst he
    exact ⟨[], none, 0, rfl, by simp, fun h => absurd h (by simp)⟩
  · simp at he
    subst he
    have hmm : m = cap := by simpa using hm
    subst hmm
    rw [hcs] at hel hx
    have key : ∀ i : Nat, ∃ z : Value × List ByteArray, i < len → W.cell? (a.add (i * 1)) = some z.1 ∧ Strs W z.1 z.2 := by
      intro i
      by_cases hi : i < len
      · obtain ⟨cs, h1, h2⟩ := hel i (by omega)
        obtain ⟨_, hl, hc⟩ := World.cells?_some h1
        match cs, hl with
        | [c0], _ =>
          obtain ⟨ts, hts⟩ := strs_of_trod (v := c0) h2
          exact ⟨(c0, ts), fun _ => ⟨by have := hc 0 (by omega); simpa [Addr.add] using this, hts⟩⟩
      · exact ⟨(.slice none 0 0, []), fun h => absurd h hi⟩
    obtain ⟨f, hf2⟩ := Classical.axiomOfChoice key
    have hlen : ((List.range len).map fun i => (f i).2).length = len := by simp
    refine ⟨(List.range len).map fun i => (f i).2, some a, m, by rw [hlen], by rw [hlen]; unfold maxLen at hcm; omega, fun h0 => ?_⟩
    rw [hlen] at h0
    have hx0 : W.cell? (a.add (0 * 1)) = some (f 0).1 := (hf2 0 h0).1
    have hsp : a.spot = none := by
      have := World.cell?_spot hx0
      simpa [Addr.add] using this
    have hbl : a.block < W.heap.size := by
      have := World.block_lt_of_cell? W _ hx0
      simpa [Addr.add] using this
    obtain ⟨ab, ao, asp⟩ := a
    simp only at hsp hbl
    subst hsp
    refine ⟨ab, ao, rfl, hbl, fun k ts hk => ?_⟩
    have hkl : k < len := by have := (List.getElem?_eq_some_iff.1 hk).1; omega
    have e : ts = (f k).2 := by simpa [hkl] using hk.symm
    subst e
    have hc := hf2 k hkl
    simp only [Addr.add_lit, Nat.mul_one] at hc
    exact ⟨_, hc.1, hc.2⟩

set_option maxRecDepth 100000 in
theorem shelf_arg {H : Type} {enc : TypeId × Value → H} {W : World} {d : DataW H} {p : List MemPlace} {base : Nat} {v : Value} (hw : Value.okWide Tryz.prog W .any base 38 v)
    (h : DataW.Trod enc Tryz.prog W 0 (fun _ => true) true 38 v d p) :
    ∃ (s : ShD) (vn vt : Value), v = .agg #[.int .i64 s.lists, .int .i64 s.rules, .string s.deflt, vn, vt] ∧ Strs W vn s.names ∧ TabS W vt s.texts ∧ s.deflt.size ≤ maxLen := by
  simp only [Value.okWide, Tryz.underlying38] at hw
  obtain ⟨cs, rfl, hs, hr⟩ := hw
  have hts : Tryz.prog.cellTypes Tryz.prog.depth 38 = some [3, 3, 9, 32, 36] := by kernel_rfl
  have hsz : Tryz.prog.cellsOf 38 = 5 := by kernel_rfl
  rw [hsz] at hs
  have hc := row_okWide hts (by simpa using hs) hr
  match cs, hs with
  | ⟨[c0, c1, c2, c3, c4]⟩, _ =>
    obtain ⟨n0, rfl, _⟩ := cell_int Tryz.underlying3 (hc 0 c0 3 rfl rfl)
    obtain ⟨n1, rfl, _⟩ := cell_int Tryz.underlying3 (hc 1 c1 3 rfl rfl)
    obtain ⟨n2, rfl⟩ := cell_string Tryz.underlying9 (hc 2 c2 9 rfl rfl)
    obtain ⟨fuel, hf⟩ := h
    obtain ⟨xs, n', _, _, _, hxl, hfs⟩ := DataW.trod_struct Tryz.underlying38 hf
    have hsz : ∀ i, i < 5 → ∃ y, xs[i]? = some y := fun i hi => ⟨xs[i]'(by rw [hxl]; exact hi), List.getElem?_eq_getElem _⟩
    have g2 := hfs 2 _ rfl
    obtain ⟨y2, hy2⟩ := hsz 2 (by decide)
    have g3 := hfs 3 _ rfl
    obtain ⟨y3, hy3⟩ := hsz 3 (by decide)
    have g4 := hfs 4 _ rfl
    obtain ⟨y4, hy4⟩ := hsz 4 (by decide)
    change DataW.trod _ _ _ _ _ _ _ 9 (List.take (Tryz.prog.cellsOf 9) _) = _ at g2
    rw [show Tryz.prog.cellsOf 9 = 1 from by kernel_rfl, hy2] at g2
    change DataW.trod _ _ _ _ _ _ _ 32 (List.take (Tryz.prog.cellsOf 32) _) = _ at g3
    rw [show Tryz.prog.cellsOf 32 = 1 from by kernel_rfl, hy3] at g3
    change DataW.trod _ _ _ _ _ _ _ 36 (List.take (Tryz.prog.cellsOf 36) _) = _ at g4
    rw [show Tryz.prog.cellsOf 36 = 1 from by kernel_rfl, hy4] at g4
    obtain ⟨x2, e2, _, s2⟩ := DataW.trod_string (cs := [.string n2]) Tryz.underlying9 g2
    obtain ⟨ns, hns⟩ := strs_of_trod (v := c3) g3
    obtain ⟨tss, htss⟩ := tab_of_trod (v := c4) g4
    simp only [List.cons.injEq, and_true, Value.string.injEq] at e2
    subst e2
    exact ⟨⟨n0, n1, n2, ns, tss⟩, c3, c4, rfl, hns, htss, s2⟩
end Go.Proofs.YthbjcihdlhkboaaGreatDoor

namespace Go.Proofs.YthbjcihdlhkboaaGreatDoor
set_option linter.unusedSimpArgs false
set_option linter.unusedVariables false
open Go.RowKit Go.Maps Go.Shelf Go.Lib Go.ChangeShapes Go.WideShapes Go.ChangeAt

set_option maxRecDepth 100000 in
theorem privown_lifted (os : Os) (started : os.Started) (H : Type) (enc : TypeId × Value → H) :
    ReturnsInHanded {} Tryz.checked os 7 .any (fun w args => (Rows.privacyOwnSpec.pre enc Tryz.prog Tryz.f7 [] false w args ∧ laidMetH Tryz.prog laidHere w) ∧ sizedMet enc Tryz.prog Tryz.f7 (OpenSpec.ofChange Rows.privacyOwnSpec) false w args)
      (Rows.privacyOwnSpec.post enc Tryz.prog Tryz.f7 false true false false) := by
  refine handed_laid (C := Tryz.checked) (X := fun w _ => laidMetH Tryz.prog laidHere w) (fun _ _ _ hh h => h.of_heap hh) rows_own started (by kernel_rfl) Tryz.func7
    (ChangeSpec.witness_shaped (enc := enc) (C := Tryz.checked) (os := os) (X := fun w _ => laidMetH Tryz.prog laidHere w) false (World.laidAll Tryz.prog os laidHere) #[.agg #[.int .i64 0, .int .i64 0, .string ⟨#[]⟩, .slice none 0 0, .slice none 0 0], .slice none 0 0] 8 (World.laidAll_os _ _ _)
      (World.shaped_of_ZipB (by kernel_rfl) (by kernel_rfl)) (by kernel_rfl) (by kernel_rfl) (by kernel_rfl)
      (by rw [MakeChecks.laidMetH_plain _ _ _ (by kernel_rfl)]; exact laidMet_laidAll _ (by kernel_rfl) (by kernel_rfl))) ?_
  intro W base args ds gs before hval0 hW hL hsh
  have hval : ∀ (j : Nat) t v, Tryz.f7.params[j]? = some t → args[j]? = some v → Value.okWide Tryz.prog W .any base t v := hval0
  have hA : ∃ p, DataW.TrodAll enc Tryz.prog W 0 (fun _ => true) true Tryz.f7.params.toList args.toList ds p := by obtain ⟨p, _, h, _⟩ := hW; exact ⟨p, h⟩
  obtain ⟨p, hA⟩ := hA
  rw [Tryz.params7] at hA hval
  obtain ⟨v0, v1, d0, d1, _, _, rfl, rfl, _, h0, h1⟩ := trodAll_two hA
  have hg : gs = [] := by obtain ⟨_, q, _, h, _⟩ := hW; exact (trodVars_none h).1
  subst hg
  have hT := tabs_of_laid hL hsh
  obtain ⟨s, vn, vt, rfl, hn, ht, hd⟩ := shelf_arg (hval 0 38 v0 rfl rfl) h0
  obtain ⟨ts, hts⟩ := strs_arg (hval 1 32 v1 rfl rfl) h1
  refine (privown_any W hT s vn vt v1 ts hn ht hd hts).mono fun e W' ⟨he, hb⟩ => ?_
  subst he
  exact ⟨_, rfl, law_post rows_laidOut rfl Tryz.underlying4 (by rw [Tryz.params7]; intro t ht; simp at ht; rcases ht with rfl | rfl <;> exact ⟨by kernel_rfl, of_decide_eq_true (by kernel_rfl)⟩) rfl ⟨rfl, rfl, rfl⟩ hW hb⟩

theorem privown_row : Rows.PrivacyOwnSaid :=
  OpenClaim.holds_of_wide 7 Tryz.f7 rfl rfl rfl rfl rfl rfl rfl ⟨rfl, rfl, rfl, rfl, rfl⟩ rfl rfl rfl rfl rfl (by kernel_rfl) Tryz.func7 (by kernel_rfl)
    (of_decide_eq_true (by kernel_rfl)) (by unfold Func.isWrapper; first | (rw [if_pos (by decide +kernel)]; kernel_rfl) | (rw [if_neg (by decide +kernel)]; exact ⟨rfl, rfl⟩))
    (fun os started H enc _ => privown_lifted os started H enc)

theorem privown_holds : Rows.PrivacyOwnCardSaid :=
  Claim7.holds_tied_plain_at .later [] [.data, .pinned] true (true, "c44359c1ebedc616dc5b2b5a8e88dac0f5b6d47266708ae989aeef21589dab81") true privown_row (fun _ h => by cases h) (by kernel_rfl) (fun _ h => by cases h) privacyOwn_row_tie rfl ⟨rfl, rfl⟩ (by kernel_rfl) rfl
    (fun f fn hf hfn => by
      obtain rfl : f = 7 := Option.some.inj ((show Tryz.prog.funcNamed "roost/roostlaw17.PrivacyOwn" = some 7 by kernel_rfl).symm.trans hf) |>.symm
      obtain rfl : fn = Tryz.f7 := (Option.some.inj (Tryz.func7.symm.trans hfn)).symm
      exact ⟨by kernel_rfl, fun j t ht => by
        rw [Tryz.params7] at ht
        have hm : t ∈ [38, 32] := by simpa using Array.mem_of_getElem? ht
        have hall : ([38, 32].all fun u => !Tryz.prog.wantsStandIn u) = true := by kernel_rfl
        exact (show Tryz.prog.wantsStandIn t = false by simpa using List.all_eq_true.1 hall t hm)⟩)
    (by kernel_rfl)
#print axioms privown_holds
end Go.Proofs.YthbjcihdlhkboaaGreatDoor
