/- PrivacyWays: the walk. -/
import Derived.Test.YthbjcihdlhkboaaDoorTx1
namespace Go.Proofs.YthbjcihdlhkboaaDoor
set_option linter.unusedSimpArgs false
set_option linter.unusedVariables false
open Go.RowKit Go.Maps Go.Shelf Go.Lib

/-- Each text is a rule of one way alone. -/
def OneWay (inn : Bool) (l : List ByteArray) : Prop := ∀ t ∈ l, t.size ≤ 120 ∧ ∃ r, parseF t = .ok r ∧ r.inn = inn ∧ r.out = !inn

theorem OneWay.parse {inn : Bool} : ∀ {l : List ByteArray}, OneWay inn l → ∃ rs, parseAll l = .ok rs ∧ rs.length = l.length ∧ ∀ r ∈ rs, r.inn = inn ∧ r.out = !inn
  | [], _ => ⟨[], rfl, rfl, by simp⟩
  | t :: ts, h => by
    obtain ⟨_, r, hr, h1, h2⟩ := h t (by simp)
    obtain ⟨rs, hrs, hl, hall⟩ := OneWay.parse (l := ts) (fun u hu => h u (by simp [hu]))
    refine ⟨r :: rs, by simp [parseAll, hr, hrs], by simp [hl], fun q hq => ?_⟩
    rcases List.mem_cons.1 hq with rfl | hq
    · exact ⟨h1, h2⟩
    · exact hall q hq

theorem fits_other {r : Rule} {inn : Bool} (h1 : r.inn = inn) (h2 : r.out = !inn) (contact : ByteArray) (groups : List ByteArray) (sub : ByteArray) : fitsS r (!inn) contact groups sub = false := by
  unfold fitsS
  rw [h1, h2]
  cases inn <;> rfl

abbrev L50 : LS := ⟨2, 50, ⟨#[]⟩, []⟩
theorem ways_set {inn : Bool} {l : List ByteArray} (h : OneWay inn l) (hl : l.length ≤ 40) : ∃ rs, L50.set nameA l = (0, L50.put nameA rs) ∧ ∀ r ∈ rs, r.inn = inn ∧ r.out = !inn := by
  obtain ⟨rs, hrs, hlen, hall⟩ := h.parse
  refine ⟨rs, ?_, hall⟩
  unfold LS.set
  rw [if_pos word_a, hrs]
  simp only
  rw [if_neg]
  rintro (h | ⟨_, h⟩)
  · have h' : (50 : Int) < (rs.length : Int) := h
    omega
  · have h' : (2 : Int) ≤ 0 := h
    omega

theorem ways_allows {inn : Bool} {rs : List Rule} (h : ∀ r ∈ rs, r.inn = inn ∧ r.out = !inn) (contact : ByteArray) (groups : List ByteArray) (sub : ByteArray) : (L50.put nameA rs).allows nameA (!inn) contact groups sub = true := by
  have hg := LS.get_put_same L50 nameA rs
  unfold LS.allows LS.named
  rw [hg]
  simp only [Option.isSome_some, if_true]
  rw [hg]
  apply firstFit_none
  intro j hj r hr
  have hm := h r (List.mem_of_getElem? (by simpa using hr))
  exact fits_other hm.1 hm.2 _ _ _

theorem text_120 (s : ByteArray) (w : World) :
    Calls Tryd.prog 18 #[.string s, .int .i64 120] w fun e w' => e = .returned (.string (cutTo s 120)) ∧ Below w.heap.size w w' := text_any s 120 (by decide) w

theorem flatS_append (l : List ByteArray) (t : ByteArray) : flatS (l ++ [t]) = flatS l ++ [.string t] := by simp [flatS]

set_option maxRecDepth 100000 in
set_option maxHeartbeats 8000000 in
theorem ways_any (w : World) (hT : Tabs w) (v : Value) (texts : List ByteArray) (hg : Strs w v texts) (inn : Bool) (q0 : Int) (q1 : ByteArray) (q2 : Value) (q3 : Bool) (contact : ByteArray) (gv : Value) (groups : List ByteArray) (hgr : Strs w gv groups) (sub : ByteArray)
    (hq2 : ∃ A n c, q2 = .slice A n c) :
    Calls Tryd.prog 6 #[v, .bool inn, .agg #[.int .i64 q0, .string q1, q2, .bool q3, .string contact, gv, .string sub]] w fun e w' => e = .returned (.bool true) ∧ Below w.heap.size w w' := by
  obtain ⟨A, cap, hv⟩ : ∃ A cap, v = .slice A texts.length cap := let ⟨⟨A, cap, h, _⟩, _⟩ := hg; ⟨A, cap, h⟩
  subst hv
  obtain ⟨GA, gcap, hv⟩ : ∃ A cap, gv = .slice A groups.length cap := let ⟨⟨A, cap, h, _⟩, _⟩ := hgr; ⟨A, cap, h⟩
  subst hv
  obtain ⟨A2, n2, k2, rfl⟩ := hq2
  have HT := Lib.hid hT
  have HG := Lib.hid hg
  have HGR := Lib.hid hgr
  clear hT hg hgr
  go_enter Tryd.func6, Tryd.ntmps6
  go_wp2_with fail
  refine (new_any 2 50 (by decide) (by decide) (by decide) (by decide) _).mono ?_
  rintro e w1 ⟨rfl, hb1, hl1⟩
  have BX : w1.heap[w.heap.size]? = some (.cells #[.int .i64 q0, .string q1, .slice A2 n2 k2, .bool q3, .string contact, .slice GA groups.length gcap, .string sub] 52) := blk_below (blk_new w _) hb1 (by simp)
  have hW : Below w.heap.size w w1 := Below.trans ((Below.refl _ _).alloc (Nat.le_refl _) _) (hb1.mono (by simp))
  simp only [World.size_alloc] at hl1
  have H1 := Lib.hid hl1
  have HBX := Lib.hid BX
  have HW := Lib.hid hW
  clear hb1 hl1 BX hW
  go_wp2_with fail
  refine (wakes17_any _ (HT.out.later HW.out)).mono ?_
  rintro e w2 ⟨rfl, hb2⟩
  have H2 := Lib.hid (H1.out.below hb2)
  have HBX2 := Lib.hid (blk_below HBX.out hb2 (blk_lt HBX.out))
  have HW2 := Lib.hid (HW.out.trans (hb2.mono HW.out.size))
  clear hb2 H1 HBX HW
  go_wp2_with fail
  go_loopg [9, 10] (min texts.length 40) (fun g s9 s10 wx => ∃ (k : Nat) (l : List ByteArray), k ≤ min texts.length 40 ∧ g = min texts.length 40 - k ∧ s10 = .int .i64 k ∧ l.length ≤ k ∧ OneWay inn l ∧ Below w2.heap.size w2 wx ∧ Seq wx w2.heap.size 9 1 s9 l.length (flatS l))
  case atStart => exact ⟨0, [], by omega, rfl, rfl, by simp, fun t ht => absurd ht (by simp), Below.refl _ _, Seq.nil _ _ _ _⟩
  case round =>
    obtain ⟨k, l, hk, hgk, rfl, hll, hone, hbx, hseq⟩ := hrel
    obtain ⟨A9, c9, rfl⟩ := hseq.shape
    have HX := Lib.hid hbx
    have HS := Lib.hid hseq
    have HK := Lib.hid (And.intro hk hgk)
    have HL := Lib.hid (And.intro hll hone)
    clear hbx hseq hgk hll hone
    by_cases hlt : k < min texts.length 40
    · have t1 : decide ((k : Int) < (texts.length : Int)) = true := by simp; omega
      have t3 : decide ((k : Int) < 40) = true := by simp; omega
      have hkt : k < texts.length := by omega
      obtain ⟨t, ht⟩ : ∃ t, texts[k]? = some t := ⟨_, List.getElem?_eq_getElem hkt⟩
      obtain ⟨b, off, rfl, y⟩ : ∃ b off, A = some ⟨b, off, none⟩ ∧ wr.cell? ⟨b, off + k, none⟩ = some (.string t) := by
        obtain ⟨⟨A', cap', hv, hf⟩, _⟩ := HG.out
        obtain ⟨b, off, hA, hlb, hc⟩ := hf (by omega)
        obtain ⟨rfl, rfl⟩ : A = A' ∧ cap = cap' := by simpa using hv
        refine ⟨b, off, hA, (HX.out.cell (Nat.lt_of_lt_of_le hlb HW2.out.size)).trans ((HW2.out.cell hlb).trans ((hc k hkt).trans ?_))⟩
        rw [List.getD_eq_getElem?_getD, ht]; rfl
      have t2 : (k : Int) < (texts.length : Int) := by omega
      have hw : IntKind.i64.wrap ((k : Int) + 1) = (k : Int) + 1 := IntWalk.i64_in _ (by omega)
      clear ht
      go_wp2_with fail
      refine (text_120 t _).mono ?_
      rintro e w3 ⟨rfl, hb3⟩
      go_wp2_with fail
      have C2 := parse_full (cutTo t 120) w3 (HT.out.later (HW2.out.trans ((HX.out.trans (hb3.mono HX.out.size)).mono HW2.out.size))) (by have := cutTo_size t 120; omega)
      cases hp : parseF (cutTo t 120) with
      | error c => as_aux_lemma =>
        rw [hp] at C2
        simp only [parseV] at C2
        have hc0 : c ≠ 0 := parseF_err hp
        have hc1 : (c == 0) = false := by simpa using hc0
        have hc2 : (c != 0) = true := by simpa using hc0
        have HC2 := Lib.hid C2
        clear C2 hc0 hp
        refine HC2.out.mono ?_
        rintro e w4 ⟨rfl, hb4⟩
        have hbb := (HX.out.trans ((hb3.trans (hb4.mono hb3.size)).mono HX.out.size)).alloc (by have := HX.out.size; have := hb3.size; have := hb4.size; omega) (.cells #[.bool false, .bool false, .bool false, .string ⟨#[]⟩, .string ⟨#[]⟩] 65)
        have HS5 := ((HS.out.below hb3 (fun k hk => (HS.out.lt k hk).2)).below hb4 (fun k hk => Nat.lt_of_lt_of_le (HS.out.lt k hk).2 hb3.size)).alloc (.cells #[.bool false, .bool false, .bool false, .string ⟨#[]⟩, .string ⟨#[]⟩] 65)
        have HB5 := Lib.hid (And.intro hbb HS5)
        clear hbb HS5 hb3 hb4
        go_wp2_with fail
        go_roundg (min texts.length 40 - (k + 1))
        case measure => have := HK.out.2; omega
        case rel => exact ⟨k + 1, l, by omega, rfl, by go_num, by have := HL.out.1; omega, HL.out.2, HB5.out.1, HB5.out.2⟩
      | ok r =>
        rw [hp] at C2
        simp only [parseV] at C2
        obtain ⟨ra, ri, ro, rb, rv⟩ := r
        have HPP := Lib.hid hp
        have HC2 := Lib.hid C2
        clear C2 hp
        by_cases hm : ri = inn ∧ ro = !inn
        · obtain ⟨rfl, rfl⟩ := hm
          cases ri
          · as_aux_lemma =>
            refine HC2.out.mono ?_
            rintro e w4 ⟨rfl, hb4⟩
            obtain ⟨i0, hi, hz0, hz1, hz2⟩ := info_parts strInfo
            have HS2 := (((HS.out.below hb3 (fun k hk => (HS.out.lt k hk).2)).below hb4 (fun k hk => Nat.lt_of_lt_of_le (HS.out.lt k hk).2 hb3.size)).alloc (.cells #[.bool ra, .bool false, .bool true, .string rb, .string rv] 65)).alloc (.cells #[.string (cutTo t 120)] 9)
            have hbb := ((HX.out.trans ((hb3.trans (hb4.mono hb3.size)).mono HX.out.size)).alloc (by have := HX.out.size; have := hb3.size; have := hb4.size; omega) (.cells #[.bool ra, .bool false, .bool true, .string rb, .string rv] 65)).alloc (by have := HX.out.size; have := hb3.size; have := hb4.size; simp; omega) (.cells #[.string (cutTo t 120)] 9)
            have HBB := Lib.hid hbb
            clear hbb
            go_wp2_with (at_builtin; refine wpList_append_seq _ rfl _ _ 43 rfl w2.heap.size 9 i0 (.string ⟨#[]⟩) 1 16 Tryd.underlying43 hi hz0 hz1 hz2 rfl _ l.length (flatS l) rfl HS2 ⟨w4.heap.size + 1, 0, none⟩ 1 1 [.string (cutTo t 120)] rfl rfl ?c1 ?c2 (by decide) ?c3 ?c4 ?c5 ?_)
            case c1 => intro j u hu; match j, hu with | 0, hu => simpa [go_sem, Addr.add] using hu
            case c2 => intro u hu; simp at hu; subst hu; rfl
            case c3 => have := HL.out.1; unfold maxLen; omega
            case c4 => have := HL.out.1; omega
            case c5 => have := HX.out.size; have := hb3.size; have := hb4.size; simp; omega
            intro v' w5 hseq' hgrow hat
            have hb5 := HBB.out.grown hgrow HBB.out.size (fun j hj => (HS2.lt j hj).1)
            have HS5 := Lib.hid hseq'
            have HB5 := Lib.hid hb5
            clear HS2 hseq' hgrow hat hb5
            go_wp2_with fail
            go_roundg (min texts.length 40 - (k + 1))
            case measure => have := HK.out.2; omega
            case rel =>
              refine ⟨k + 1, l ++ [cutTo t 120], by omega, rfl, by go_num, by have := HL.out.1; simp; omega, ?_, HB5.out, ?_⟩
              · intro u hu
                rcases List.mem_append.1 hu with hu | hu
                · exact HL.out.2 u hu
                · simp at hu
                  subst hu
                  exact ⟨cutTo_size _ _, _, HPP.out, rfl, rfl⟩
              · rw [flatS_append, List.length_append]; exact HS5.out
          · as_aux_lemma =>
            refine HC2.out.mono ?_
            rintro e w4 ⟨rfl, hb4⟩
            obtain ⟨i0, hi, hz0, hz1, hz2⟩ := info_parts strInfo
            have HS2 := (((HS.out.below hb3 (fun k hk => (HS.out.lt k hk).2)).below hb4 (fun k hk => Nat.lt_of_lt_of_le (HS.out.lt k hk).2 hb3.size)).alloc (.cells #[.bool ra, .bool true, .bool false, .string rb, .string rv] 65)).alloc (.cells #[.string (cutTo t 120)] 9)
            have hbb := ((HX.out.trans ((hb3.trans (hb4.mono hb3.size)).mono HX.out.size)).alloc (by have := HX.out.size; have := hb3.size; have := hb4.size; omega) (.cells #[.bool ra, .bool true, .bool false, .string rb, .string rv] 65)).alloc (by have := HX.out.size; have := hb3.size; have := hb4.size; simp; omega) (.cells #[.string (cutTo t 120)] 9)
            have HBB := Lib.hid hbb
            clear hbb
            go_wp2_with (at_builtin; refine wpList_append_seq _ rfl _ _ 43 rfl w2.heap.size 9 i0 (.string ⟨#[]⟩) 1 16 Tryd.underlying43 hi hz0 hz1 hz2 rfl _ l.length (flatS l) rfl HS2 ⟨w4.heap.size + 1, 0, none⟩ 1 1 [.string (cutTo t 120)] rfl rfl ?c1 ?c2 (by decide) ?c3 ?c4 ?c5 ?_)
            case c1 => intro j u hu; match j, hu with | 0, hu => simpa [go_sem, Addr.add] using hu
            case c2 => intro u hu; simp at hu; subst hu; rfl
            case c3 => have := HL.out.1; unfold maxLen; omega
            case c4 => have := HL.out.1; omega
            case c5 => have := HX.out.size; have := hb3.size; have := hb4.size; simp; omega
            intro v' w5 hseq' hgrow hat
            have hb5 := HBB.out.grown hgrow HBB.out.size (fun j hj => (HS2.lt j hj).1)
            have HS5 := Lib.hid hseq'
            have HB5 := Lib.hid hb5
            clear HS2 hseq' hgrow hat hb5
            go_wp2_with fail
            go_roundg (min texts.length 40 - (k + 1))
            case measure => have := HK.out.2; omega
            case rel =>
              refine ⟨k + 1, l ++ [cutTo t 120], by omega, rfl, by go_num, by have := HL.out.1; simp; omega, ?_, HB5.out, ?_⟩
              · intro u hu
                rcases List.mem_append.1 hu with hu | hu
                · exact HL.out.2 u hu
                · simp at hu
                  subst hu
                  exact ⟨cutTo_size _ _, _, HPP.out, rfl, rfl⟩
              · rw [flatS_append, List.length_append]; exact HS5.out
        · have HM := Lib.hid hm
          clear hm
          cases inn <;> cases ri <;> cases ro
          all_goals first
            | exact absurd ⟨rfl, rfl⟩ HM.out
            | skip
          all_goals
            refine HC2.out.mono ?_
            rintro e w4 ⟨rfl, hb4⟩
          · as_aux_lemma =>
            have hbb := (HX.out.trans ((hb3.trans (hb4.mono hb3.size)).mono HX.out.size)).alloc (by have := HX.out.size; have := hb3.size; have := hb4.size; omega) (.cells #[.bool ra, .bool false, .bool false, .string rb, .string rv] 65)
            have HS5 := ((HS.out.below hb3 (fun k hk => (HS.out.lt k hk).2)).below hb4 (fun k hk => Nat.lt_of_lt_of_le (HS.out.lt k hk).2 hb3.size)).alloc (.cells #[.bool ra, .bool false, .bool false, .string rb, .string rv] 65)
            have HB5 := Lib.hid (And.intro hbb HS5)
            clear hbb HS5 hb3 hb4
            go_wp2_with fail
            go_roundg (min texts.length 40 - (k + 1))
            case measure => have := HK.out.2; omega
            case rel => exact ⟨k + 1, l, by omega, rfl, by go_num, by have := HL.out.1; omega, HL.out.2, HB5.out.1, HB5.out.2⟩
          · as_aux_lemma =>
            have hbb := (HX.out.trans ((hb3.trans (hb4.mono hb3.size)).mono HX.out.size)).alloc (by have := HX.out.size; have := hb3.size; have := hb4.size; omega) (.cells #[.bool ra, .bool true, .bool false, .string rb, .string rv] 65)
            have HS5 := ((HS.out.below hb3 (fun k hk => (HS.out.lt k hk).2)).below hb4 (fun k hk => Nat.lt_of_lt_of_le (HS.out.lt k hk).2 hb3.size)).alloc (.cells #[.bool ra, .bool true, .bool false, .string rb, .string rv] 65)
            have HB5 := Lib.hid (And.intro hbb HS5)
            clear hbb HS5 hb3 hb4
            go_wp2_with fail
            go_roundg (min texts.length 40 - (k + 1))
            case measure => have := HK.out.2; omega
            case rel => exact ⟨k + 1, l, by omega, rfl, by go_num, by have := HL.out.1; omega, HL.out.2, HB5.out.1, HB5.out.2⟩
          · as_aux_lemma =>
            have hbb := (HX.out.trans ((hb3.trans (hb4.mono hb3.size)).mono HX.out.size)).alloc (by have := HX.out.size; have := hb3.size; have := hb4.size; omega) (.cells #[.bool ra, .bool true, .bool true, .string rb, .string rv] 65)
            have HS5 := ((HS.out.below hb3 (fun k hk => (HS.out.lt k hk).2)).below hb4 (fun k hk => Nat.lt_of_lt_of_le (HS.out.lt k hk).2 hb3.size)).alloc (.cells #[.bool ra, .bool true, .bool true, .string rb, .string rv] 65)
            have HB5 := Lib.hid (And.intro hbb HS5)
            clear hbb HS5 hb3 hb4
            go_wp2_with fail
            go_roundg (min texts.length 40 - (k + 1))
            case measure => have := HK.out.2; omega
            case rel => exact ⟨k + 1, l, by omega, rfl, by go_num, by have := HL.out.1; omega, HL.out.2, HB5.out.1, HB5.out.2⟩
          · as_aux_lemma =>
            have hbb := (HX.out.trans ((hb3.trans (hb4.mono hb3.size)).mono HX.out.size)).alloc (by have := HX.out.size; have := hb3.size; have := hb4.size; omega) (.cells #[.bool ra, .bool false, .bool false, .string rb, .string rv] 65)
            have HS5 := ((HS.out.below hb3 (fun k hk => (HS.out.lt k hk).2)).below hb4 (fun k hk => Nat.lt_of_lt_of_le (HS.out.lt k hk).2 hb3.size)).alloc (.cells #[.bool ra, .bool false, .bool false, .string rb, .string rv] 65)
            have HB5 := Lib.hid (And.intro hbb HS5)
            clear hbb HS5 hb3 hb4
            go_wp2_with fail
            go_roundg (min texts.length 40 - (k + 1))
            case measure => have := HK.out.2; omega
            case rel => exact ⟨k + 1, l, by omega, rfl, by go_num, by have := HL.out.1; omega, HL.out.2, HB5.out.1, HB5.out.2⟩
          · as_aux_lemma =>
            have hbb := (HX.out.trans ((hb3.trans (hb4.mono hb3.size)).mono HX.out.size)).alloc (by have := HX.out.size; have := hb3.size; have := hb4.size; omega) (.cells #[.bool ra, .bool false, .bool true, .string rb, .string rv] 65)
            have HS5 := ((HS.out.below hb3 (fun k hk => (HS.out.lt k hk).2)).below hb4 (fun k hk => Nat.lt_of_lt_of_le (HS.out.lt k hk).2 hb3.size)).alloc (.cells #[.bool ra, .bool false, .bool true, .string rb, .string rv] 65)
            have HB5 := Lib.hid (And.intro hbb HS5)
            clear hbb HS5 hb3 hb4
            go_wp2_with fail
            go_roundg (min texts.length 40 - (k + 1))
            case measure => have := HK.out.2; omega
            case rel => exact ⟨k + 1, l, by omega, rfl, by go_num, by have := HL.out.1; omega, HL.out.2, HB5.out.1, HB5.out.2⟩
          · as_aux_lemma =>
            have hbb := (HX.out.trans ((hb3.trans (hb4.mono hb3.size)).mono HX.out.size)).alloc (by have := HX.out.size; have := hb3.size; have := hb4.size; omega) (.cells #[.bool ra, .bool true, .bool true, .string rb, .string rv] 65)
            have HS5 := ((HS.out.below hb3 (fun k hk => (HS.out.lt k hk).2)).below hb4 (fun k hk => Nat.lt_of_lt_of_le (HS.out.lt k hk).2 hb3.size)).alloc (.cells #[.bool ra, .bool true, .bool true, .string rb, .string rv] 65)
            have HB5 := Lib.hid (And.intro hbb HS5)
            clear hbb HS5 hb3 hb4
            go_wp2_with fail
            go_roundg (min texts.length 40 - (k + 1))
            case measure => have := HK.out.2; omega
            case rel => exact ⟨k + 1, l, by omega, rfl, by go_num, by have := HL.out.1; omega, HL.out.2, HB5.out.1, HB5.out.2⟩
    · by_cases hkt : k < texts.length
      · have t1 : decide ((k : Int) < (texts.length : Int)) = true := by simpa using hkt
        have t3 : decide ((k : Int) < 40) = false := by simp; omega
        obtain ⟨rs, hset, hall⟩ := ways_set HL.out.2 (by have := HL.out.1; omega)
        have hbx0 := HBX2.out
        have HL2 := H2.out.below HX.out
        have BX2 := blk_below HBX2.out HX.out (blk_lt HBX2.out)
        have hbw := HW2.out.trans (HX.out.mono HW2.out.size)
        have HF := Lib.hid (And.intro HL2 (And.intro BX2 (And.intro hbw (And.intro hset hall))))
        clear HL2 BX2 hbw hset hall hbx0
        go_wp2_with fail
        refine (set_any HF.out.1 (HT.out.later HF.out.2.2.1) nameA (by decide) _ l (strs_of_seq HS.out (by have := HL.out.1; omega)) (by have := HL.out.1; omega) (fun t ht => by have := (HL.out.2 t ht).1; omega) (by decide) (by have := HF.out.2.2.1.size; have := blk_lt HF.out.1.cells; omega)).mono ?_
        rintro e w5 ⟨he, n5, D5, hn5, hl5, hg5⟩
        rw [HF.out.2.2.2.1] at he hl5
        obtain rfl : e = _ := he
        have hl6 : LAt w5 (w.heap.size + 1) (w.heap.size + 1 + 1) (w.heap.size + 1) n5 D5 (L50.put nameA rs) := hl5
        have hb5 : Below w.heap.size w w5 := HF.out.2.2.1.trans (below_of_grown hg5 (Nat.le_succ _) HF.out.2.2.1.size)
        have B5 := (hg5.block w.heap.size (blk_lt HF.out.2.1) (by simp)).trans HF.out.2.1
        have z4 : w5.cell? ⟨w.heap.size, 4, none⟩ = some (.string contact) := blk_cell B5 4
        have z5 : w5.cell? ⟨w.heap.size, 5, none⟩ = some (.slice GA groups.length gcap) := blk_cell B5 5
        have z6 : w5.cell? ⟨w.heap.size, 6, none⟩ = some (.string sub) := blk_cell B5 6
        have C6 := allows_any hl6 nameA (!inn) contact (.slice GA groups.length gcap) groups sub (by decide) (HGR.out.below hb5)
        rw [ways_allows HF.out.2.2.2.2] at C6
        have HC6 := Lib.hid C6
        have HB5 := Lib.hid hb5
        clear C6 hb5 B5 hl5 hl6 hg5 hn5
        go_wp2_with fail
        refine HC6.out.mono ?_
        rintro e w6 ⟨rfl, hb6⟩
        go_wp2_with fail
        go_ret
        exact ⟨rfl, HB5.out.trans (hb6.mono HB5.out.size)⟩
      · have t1 : decide ((k : Int) < (texts.length : Int)) = false := by simpa using hkt
        obtain ⟨rs, hset, hall⟩ := ways_set HL.out.2 (by have := HL.out.1; omega)
        have hbx0 := HBX2.out
        have HL2 := H2.out.below HX.out
        have BX2 := blk_below HBX2.out HX.out (blk_lt HBX2.out)
        have hbw := HW2.out.trans (HX.out.mono HW2.out.size)
        have HF := Lib.hid (And.intro HL2 (And.intro BX2 (And.intro hbw (And.intro hset hall))))
        clear HL2 BX2 hbw hset hall hbx0
        go_wp2_with fail
        refine (set_any HF.out.1 (HT.out.later HF.out.2.2.1) nameA (by decide) _ l (strs_of_seq HS.out (by have := HL.out.1; omega)) (by have := HL.out.1; omega) (fun t ht => by have := (HL.out.2 t ht).1; omega) (by decide) (by have := HF.out.2.2.1.size; have := blk_lt HF.out.1.cells; omega)).mono ?_
        rintro e w5 ⟨he, n5, D5, hn5, hl5, hg5⟩
        rw [HF.out.2.2.2.1] at he hl5
        obtain rfl : e = _ := he
        have hl6 : LAt w5 (w.heap.size + 1) (w.heap.size + 1 + 1) (w.heap.size + 1) n5 D5 (L50.put nameA rs) := hl5
        have hb5 : Below w.heap.size w w5 := HF.out.2.2.1.trans (below_of_grown hg5 (Nat.le_succ _) HF.out.2.2.1.size)
        have B5 := (hg5.block w.heap.size (blk_lt HF.out.2.1) (by simp)).trans HF.out.2.1
        have z4 : w5.cell? ⟨w.heap.size, 4, none⟩ = some (.string contact) := blk_cell B5 4
        have z5 : w5.cell? ⟨w.heap.size, 5, none⟩ = some (.slice GA groups.length gcap) := blk_cell B5 5
        have z6 : w5.cell? ⟨w.heap.size, 6, none⟩ = some (.string sub) := blk_cell B5 6
        have C6 := allows_any hl6 nameA (!inn) contact (.slice GA groups.length gcap) groups sub (by decide) (HGR.out.below hb5)
        rw [ways_allows HF.out.2.2.2.2] at C6
        have HC6 := Lib.hid C6
        have HB5 := Lib.hid hb5
        clear C6 hb5 B5 hl5 hl6 hg5 hn5
        go_wp2_with fail
        refine HC6.out.mono ?_
        rintro e w6 ⟨rfl, hb6⟩
        go_wp2_with fail
        go_ret
        exact ⟨rfl, HB5.out.trans (hb6.mono HB5.out.size)⟩

end Go.Proofs.YthbjcihdlhkboaaDoor
