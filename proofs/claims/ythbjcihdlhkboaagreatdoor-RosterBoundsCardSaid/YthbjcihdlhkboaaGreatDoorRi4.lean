/- What a name and groups are refused with: text, words. -/
import Derived.Test.YthbjcihdlhkboaaGreatDoorRi3
namespace Go.Proofs.YthbjcihdlhkboaaGreatDoor
set_option linter.unusedSimpArgs false
set_option linter.unusedVariables false
open Go.RowKit Go.Maps Go.Shelf Go.Lib

theorem textE_ok {s : ByteArray} (h : textE s = 0) : s.size ≤ 64 ∧ validB s = true := by
  unfold textE at h
  split at h
  · omega
  · split at h
    · omega
    · rename_i h1 h2; exact ⟨by omega, by simpa using h2⟩
theorem textE_no {s : ByteArray} (h : textE s ≠ 0) : (64 < s.size ∧ textE s = 5) ∨ (s.size ≤ 64 ∧ validB s = false ∧ textE s = 4) := by
  unfold textE at *
  split at h
  · rename_i h1; exact .inl ⟨h1, by rw [if_pos h1]⟩
  · rename_i h1
    split at h
    · rename_i h2; exact .inr ⟨by omega, h2, by rw [if_neg h1, if_pos h2]⟩
    · omega

set_option maxHeartbeats 1000000 in
theorem rtext_ok (s : ByteArray) (w : World) (hT : Tabs w) (hs : s.size ≤ 9223372036854775807) (h : textE s = 0) :
    Calls Tryz.prog 114 #[.string s] w fun e w' => e = .returned (.tuple #[]) ∧ Below w.heap.size w w' := by
  obtain ⟨h1, h2⟩ := textE_ok h
  have C := Lib.hid (valid_any s w hT hs)
  unfold validB at h2
  rw [h2] at C
  have t1 : decide ((s.size : Int) ≤ 64) = true := by simp; omega
  have t2 : (s.size : Int) ≤ 64 := by omega
  clear h h1 h2 hT hs
  go_enter Tryz.func114, Tryz.ntmps114
  go_wp2_with fail
  refine (rmust_yes 5 _).mono ?_
  rintro e w1 ⟨rfl, rfl⟩
  go_wp2_with fail
  refine (C.out _ (Below.refl _ _)).mono ?_
  rintro e w2 ⟨rfl, hb2⟩
  go_wp2_with fail
  refine (rmust_yes 4 _).mono ?_
  rintro e w3 ⟨rfl, rfl⟩
  go_wp2_with fail
  go_end0
  exact ⟨rfl, hb2⟩

set_option maxHeartbeats 1000000 in
theorem rtext_no (s : ByteArray) (w : World) (hT : Tabs w) (hs : s.size ≤ 9223372036854775807) (h : textE s ≠ 0) :
    Calls Tryz.prog 114 #[.string s] w fun e w' => e = .panicked [{ v := rfailsV (textE s), recovered := false }] ∧ Below w.heap.size w w' := by
  have C := Lib.hid (valid_any s w hT hs)
  rcases textE_no h with ⟨h1, h2⟩ | ⟨h1, h2, h3⟩
  · rw [h2]
    have t1 : decide ((s.size : Int) ≤ 64) = false := by simp; omega
    have t2 : ¬ (s.size : Int) ≤ 64 := by omega
    clear h h1 h2 hT hs C
    go_enter Tryz.func114, Tryz.ntmps114
    go_wp2_with fail
    refine (rmust_no 5 (by decide) _).mono ?_
    rintro e w1 ⟨rfl, rfl⟩
    go_wp2_with fail
    exact ⟨rfl, rfl, Below.refl _ _⟩
  · rw [h3]
    unfold validB at h2
    rw [h2] at C
    have t1 : decide ((s.size : Int) ≤ 64) = true := by simp; omega
    have t2 : (s.size : Int) ≤ 64 := by omega
    clear h h1 h2 h3 hT hs
    go_enter Tryz.func114, Tryz.ntmps114
    go_wp2_with fail
    refine (rmust_yes 5 _).mono ?_
    rintro e w1 ⟨rfl, rfl⟩
    go_wp2_with fail
    refine (C.out _ (Below.refl _ _)).mono ?_
    rintro e w2 ⟨rfl, hb2⟩
    go_wp2_with fail
    refine (rmust_no 4 (by decide) _).mono ?_
    rintro e w3 ⟨rfl, rfl⟩
    go_wp2_with fail
    exact ⟨rfl, rfl, hb2⟩

/-- How words ends. -/
def WordsEnd (c : Int) (e : Ending) : Prop := if c = 0 then e = .returned (.tuple #[]) else e = .panicked [{ v := rfailsV c, recovered := false }]

theorem WordsEnd.ok : WordsEnd 0 (.returned (.tuple #[])) := by unfold WordsEnd; rw [if_pos rfl]
theorem WordsEnd.no {c : Int} (h : c ≠ 0) : WordsEnd c (.panicked [{ v := rfailsV c, recovered := false }]) := by unfold WordsEnd; rw [if_neg h]

set_option maxRecDepth 100000 in
set_option maxHeartbeats 4000000 in
theorem words_any (l : ByteArray) (v : Value) (gs : List ByteArray) (w : World) (hT : Tabs w) (hl : l.size ≤ 9223372036854775807) (hg : Strs w v gs) (hgs : ∀ g ∈ gs, g.size ≤ 9223372036854775807) :
    Calls Tryz.prog 61 #[.string l, v] w fun e w' => WordsEnd (wordsE l gs) e ∧ Below w.heap.size w w' := by
  obtain ⟨A, cap, hv⟩ : ∃ A cap, v = .slice A gs.length cap := let ⟨⟨A, cap, h, _⟩, _⟩ := hg; ⟨A, cap, h⟩
  subst hv
  have hlen := hg.2
  have HG := Lib.hid hg
  have HGS := Lib.hid hgs
  have HT := Lib.hid hT
  by_cases h1 : textE l = 0
  · have C := Lib.hid (rtext_ok l w hT hl h1)
    by_cases h2 : 8 < gs.length
    · have hw : wordsE l gs = 5 := by unfold wordsE; rw [if_neg (by simpa using h1), if_pos h2]
      rw [hw]
      have t1 : decide ((gs.length : Int) ≤ 8) = false := by simp; omega
      have t2 : ¬ (gs.length : Int) ≤ 8 := by omega
      clear h1 h2 hw hT hl hg hgs
      go_enter Tryz.func61, Tryz.ntmps61
      go_wp2_with fail
      refine C.out.mono ?_
      rintro e w1 ⟨rfl, hb1⟩
      go_wp2_with fail
      refine (rmust_no 5 (by decide) _).mono ?_
      rintro e w2 ⟨rfl, rfl⟩
      go_wp2_with fail
      exact ⟨rfl, WordsEnd.no (by decide), hb1⟩
    · have hw : wordsE l gs = groupsE gs := by unfold wordsE; rw [if_neg (by simpa using h1), if_neg h2]
      obtain ⟨ge, hge⟩ : ∃ ge, groupsE gs = ge := ⟨_, rfl⟩
      rw [hw, hge]
      have HGE := Lib.hid hge
      clear hge
      have t1 : decide ((gs.length : Int) ≤ 8) = true := by simp; omega
      have t2 : (gs.length : Int) ≤ 8 := by omega
      have HL := Lib.hid hlen
      clear h1 h2 hw hT hl hg hgs
      go_enter Tryz.func61, Tryz.ntmps61
      go_wp2_with fail
      refine C.out.mono ?_
      rintro e w1 ⟨rfl, hb1⟩
      go_wp2_with fail
      refine (rmust_yes 5 _).mono ?_
      rintro e w2 ⟨rfl, rfl⟩
      have HB := Lib.hid hb1
      clear hb1
      go_wp2_with fail
      go_loopg [14] gs.length (fun g s14 wx => ∃ k : Nat, k ≤ gs.length ∧ g = gs.length - k ∧ s14 = .int .i64 k ∧ ge = groupsE (gs.drop k) ∧ Below w.heap.size w wx)
      case atStart => exact ⟨0, Nat.zero_le _, rfl, rfl, HGE.out.symm, HB.out⟩
      case round =>
        obtain ⟨k, hk, hgk, rfl, hge, hbx⟩ := hrel
        have HX := Lib.hid hbx
        have HK := Lib.hid (And.intro hk (And.intro hgk hge))
        clear hbx hk hgk hge
        by_cases hlt : k < gs.length
        · have t3 : (k : Int) < (gs.length : Int) := by omega
          have hd : gs.drop k = gs[k] :: gs.drop (k + 1) := List.drop_eq_getElem_cons hlt
          obtain ⟨b, off, rfl, y⟩ : ∃ b off, A = some ⟨b, off, none⟩ ∧ wr.cell? ⟨b, off + k, none⟩ = some (.string gs[k]) := by
            obtain ⟨⟨A', cap', hv, hf⟩, _⟩ := HG.out
            obtain ⟨b, off, hA, hlb, hc⟩ := hf (by omega)
            obtain ⟨rfl, rfl⟩ : A = A' ∧ cap = cap' := by simpa using hv
            refine ⟨b, off, hA, (HX.out.cell hlb).trans ((hc k hlt).trans ?_)⟩
            rw [List.getD_eq_getElem?_getD, List.getElem?_eq_getElem hlt]; rfl
          have hgl := HGS.out gs[k] (List.getElem_mem hlt)
          have hT2 := HT.out.later HX.out
          have hge := HK.out.2.2
          rw [hd] at hge
          have HK := Lib.hid (And.intro HK.out.1 (And.intro HK.out.2.1 hge))
          clear hge hd
          generalize gs[k] = t at *
          have hw : IntKind.i64.wrap ((k : Int) + 1) = (k : Int) + 1 := IntWalk.i64_in _ (by omega)
          by_cases h3 : textE t = 0
          · have C3 := Lib.hid (rtext_ok t wr hT2 hgl h3)
            by_cases h4 : t.size = 0
            · have hres : ge = 4 := by rw [HK.out.2.2]; show (if textE t ≠ 0 then textE t else if t.size = 0 then 4 else groupsE (gs.drop (k + 1))) = 4; rw [if_neg (by simpa using h3), if_pos h4]
              subst hres
              have te : t = ⟨#[]⟩ := by
                obtain ⟨d⟩ := t
                have : d = #[] := Array.eq_empty_of_size_eq_zero h4
                rw [this]
              subst te
              clear h3 h4 hT2 hgl
              go_wp2_with fail
              refine C3.out.mono ?_
              rintro e w3 ⟨rfl, hb3⟩
              go_wp2_with fail
              refine (rmust_no 4 (by decide) _).mono ?_
              rintro e w4 ⟨rfl, rfl⟩
              go_wp2_with fail
              exact ⟨rfl, WordsEnd.no (by decide), HX.out.trans (hb3.mono HX.out.size)⟩
            · have hres : ge = groupsE (gs.drop (k + 1)) := by rw [HK.out.2.2]; show (if textE t ≠ 0 then textE t else if t.size = 0 then 4 else groupsE (gs.drop (k + 1))) = _; rw [if_neg (by simpa using h3), if_neg h4]
              have HR := Lib.hid hres
              have t5 : t.toList.isEmpty = false := by
                obtain ⟨⟨d⟩⟩ := t
                cases d with
                | nil => exact absurd rfl h4
                | cons x xs => rw [Lib.toList_data]; rfl
              clear h3 h4 hT2 hgl hres
              go_wp2_with fail
              refine C3.out.mono ?_
              rintro e w3 ⟨rfl, hb3⟩
              have HX := Lib.hid (HX.out.trans (hb3.mono HX.out.size))
              clear hb3
              go_wp2_with fail
              refine (rmust_yes 4 _).mono ?_
              rintro e w4 ⟨rfl, rfl⟩
              go_wp2_with fail
              go_roundg (gs.length - (k + 1))
              case measure => have := HK.out.2.1; omega
              case rel => exact ⟨k + 1, by omega, rfl, by go_num, HR.out, HX.out⟩
          · have hres : ge = textE t := by rw [HK.out.2.2]; show (if textE t ≠ 0 then textE t else if t.size = 0 then 4 else groupsE (gs.drop (k + 1))) = _; rw [if_pos (by simpa using h3)]
            have C3 := Lib.hid (rtext_no t wr hT2 hgl h3)
            have HR := Lib.hid (And.intro hres h3)
            clear h3 hT2 hgl hres
            go_wp2_with fail
            refine C3.out.mono ?_
            rintro e w3 ⟨rfl, hb3⟩
            go_wp2_with fail
            exact ⟨rfl, by rw [HR.out.1]; exact WordsEnd.no HR.out.2, HX.out.trans (hb3.mono HX.out.size)⟩
        · have hres : ge = 0 := by rw [HK.out.2.2, List.drop_of_length_le (by have := HK.out.1; omega)]; rfl
          subst hres
          have t3 : ¬ (k : Int) < (gs.length : Int) := by omega
          go_wp2_with fail
          go_end0
          exact ⟨WordsEnd.ok, HX.out⟩
  · have hw : wordsE l gs = textE l := by unfold wordsE; rw [if_pos (by simpa using h1)]
    have C := Lib.hid (rtext_no l w hT hl h1)
    rw [hw]
    have HR := Lib.hid h1
    clear h1 hw hT hl hg hgs
    go_enter Tryz.func61, Tryz.ntmps61
    go_wp2_with fail
    refine C.out.mono ?_
    rintro e w1 ⟨rfl, hb1⟩
    go_wp2_with fail
    exact ⟨rfl, WordsEnd.no HR.out, hb1⟩

end Go.Proofs.YthbjcihdlhkboaaGreatDoor
