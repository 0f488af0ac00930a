/- Setting a list: the walk. -/
import Derived.Test.YthbjcihdlhkboaaGreatDoorLs4
import Derived.Test.YthbjcihdlhkboaaGreatDoorHeld
namespace Go.Proofs.YthbjcihdlhkboaaGreatDoor
set_option linter.unusedSimpArgs false
set_option linter.unusedVariables false
open Go.RowKit Go.Maps Go.Shelf Go.Lib

theorem LAt.facts {w : World} {B lb mb n : Nat} {D : DataW Value} {L : LS} (h : LAt w B lb mb n D L) :
    w.cell? ⟨lb, 0, none⟩ = some (.int .i64 L.most) ∧ w.cell? ⟨lb, 1, none⟩ = some (.int .i64 L.rules) ∧ w.cell? ⟨lb, 3, none⟩ = some (.map (some mb)) ∧ (Builtin.len_ #[93] 3 #[.map (some mb)]).run Tryz.prog w = .ok (.int .i64 (L.items.length : Nat)) w :=
  ⟨blk_cell h.cells 0, blk_cell h.cells 1, blk_cell h.cells 3, by rw [h.own.len Tryz.underlying93 3, h.size]⟩

theorem ruleInfo : (Tryz.prog.info? 138).map (fun i => (i.zero, i.size, i.bytes)) = some (some (.agg #[.bool false, .bool false, .bool false, .string ⟨#[]⟩, .string ⟨#[]⟩]), 5, 40) := by kernel_rfl

theorem below_undrew {W W' : World} (h : Below W.drew.heap.size W.drew W') : Below W.heap.size W W' := ⟨h.os, h.tape, h.output, h.size, h.block⟩

theorem take_snoc {α : Type} {l : List α} {k : Nat} {x : α} (h : l[k]? = some x) : l.take (k + 1) = l.take k ++ [x] := by
  rw [List.take_add_one, h]; rfl
theorem split_at {α : Type} {l : List α} {k : Nat} {x : α} (h : l[k]? = some x) : l = l.take k ++ x :: l.drop (k + 1) := by
  obtain ⟨hk, e⟩ := List.getElem?_eq_some_iff.1 h
  rw [← e, List.getElem_cons_drop hk, List.take_append_drop]

set_option maxRecDepth 100000 in
set_option maxHeartbeats 8000000 in
theorem set_any {w : World} {B lb mb n : Nat} {D : DataW Value} {L : LS} (h : LAt w B lb mb n D L) (hT : Tabs w) (name : ByteArray) (hnm : name.size ≤ 1000000) (v : Value) (texts : List ByteArray) (hg : Strs w v texts)
    (hlen : texts.length ≤ 1000000) (hsz : ∀ t ∈ texts, t.size ≤ 1000000) (hn : n ≤ 1000000) (hBw : B ≤ w.heap.size) :
    Calls Tryz.prog 36 #[.pointer (some ⟨lb, 0, none⟩), .string name, v] w fun e w' => e = .returned (.int .i64 (L.set name texts).1) ∧ ∃ n' D', n' ≤ n + 1 ∧ LAt w' B lb mb n' D' (L.set name texts).2 ∧ w.grownBy w' (some mb) := by
  obtain ⟨A, cap, hv⟩ : ∃ A cap, v = .slice A texts.length cap := let ⟨⟨A, cap, h, _⟩, _⟩ := hg; ⟨A, cap, h⟩
  subst hv
  obtain ⟨RES, hRES⟩ : ∃ R, L.set name texts = R := ⟨_, rfl⟩
  rw [hRES]
  have C1 := word_any name (validB name) w (valid_any name w hT (by omega))
  have HRES := Lib.hid hRES
  have H := Lib.hid h
  have HT := Lib.hid hT
  have HG := Lib.hid hg
  have HSZ := Lib.hid hsz
  have HNUM := Lib.hid (And.intro hnm (And.intro hlen (And.intro hn hBw)))
  clear h hT hg hsz hRES hnm hlen hn hBw
  obtain ⟨E, hE⟩ : ∃ E, wordE name (validB name) = E := ⟨_, rfl⟩
  rw [hE] at C1
  have HE := Lib.hid hE
  have HC1 := Lib.hid C1
  clear hE C1
  by_cases h0 : E = 0
  · subst h0
    go_enter Tryz.func36, Tryz.ntmps36
    go_wp2_with fail
    refine HC1.out.mono ?_
    rintro e w1 ⟨rfl, hb1⟩
    have H1 := Lib.hid (H.out.below hb1)
    have HT1 := Lib.hid (HT.out.later hb1)
    have HG1 := Lib.hid (HG.out.below hb1)
    have HB1 := Lib.hid hb1
    clear hb1 H HT HG HC1
    go_wp2_with fail
    go_loopg [8, 20] texts.length (fun g s8 s20 wx => ∃ (k : Nat) (rs : List Rule), k ≤ texts.length ∧ g = texts.length - k ∧ s20 = .int .i64 k ∧ parseAll (texts.take k) = .ok rs ∧ Below w1.heap.size w1 wx ∧ Seq wx w1.heap.size 138 5 s8 k (flatR rs))
    case atStart => exact ⟨0, [], by omega, rfl, rfl, rfl, Below.refl _ _, Seq.nil _ _ _ _⟩
    case round =>
      obtain ⟨k, rs, hk, hgk, rfl, hpa, hbx, hseq⟩ := hrel
      obtain ⟨A8, c8, rfl⟩ := hseq.shape
      have HP := Lib.hid hpa
      have HX := Lib.hid hbx
      have HS := Lib.hid hseq
      have HK := Lib.hid (And.intro hk hgk)
      have hrl : rs.length = k := by
        have := (parseAll_mem hpa).1
        rw [List.length_take] at this
        omega
      have HRL := Lib.hid hrl
      clear hpa hbx hseq hgk hrl
      by_cases hlt : k < texts.length
      · obtain ⟨t, ht⟩ : ∃ t, texts[k]? = some t := ⟨_, List.getElem?_eq_getElem hlt⟩
        obtain ⟨b, off, rfl, y⟩ : ∃ b off, A = some ⟨b, off, none⟩ ∧ wr.cell? ⟨b, off + k, none⟩ = some (.string t) := by
          obtain ⟨⟨A', cap', hv, hf⟩, _⟩ := HG1.out
          obtain ⟨b, off, hA, hlb, hc⟩ := hf (by omega)
          obtain ⟨rfl, rfl⟩ : A = A' ∧ cap = cap' := by simpa using hv
          refine ⟨b, off, hA, (HX.out.cell hlb).trans ((hc k hlt).trans ?_)⟩
          rw [List.getD_eq_getElem?_getD, ht]; rfl
        have hts : t.size ≤ 1000000 := HSZ.out t (List.mem_of_getElem? ht)
        have HTS := Lib.hid hts
        have HTT := Lib.hid ht
        have t1 : decide ((k : Int) < (texts.length : Int)) = true := by simpa using hlt
        have t2 : (k : Int) < (texts.length : Int) := by omega
        have hw : IntKind.i64.wrap ((k : Int) + 1) = (k : Int) + 1 := IntWalk.i64_in _ (by have := HNUM.out.2.1; omega)
        have C2 := parse_full t wr (HT1.out.later HX.out) (by omega)
        clear ht hts
        cases hp : parseF t with
        | error c =>
          rw [hp] at C2
          simp only [parseV] at C2
          have hc0 : c ≠ 0 := parseF_err hp
          have hc1 : (c == 0) = false := by simpa using hc0
          have hc2 : (c != 0) = true := by simpa using hc0
          have HPP := Lib.hid hp
          have HC2 := Lib.hid C2
          clear hp C2 hc0
          go_wp2_with fail
          refine HC2.out.mono ?_
          rintro e w2 ⟨rfl, hb2⟩
          go_wp2_with fail
          have hbb : Below w1.heap.size w1 (w2.alloc (.cells #[.bool false, .bool false, .bool false, .string ⟨#[]⟩, .string ⟨#[]⟩] 138)) := (HX.out.trans (hb2.mono HX.out.size)).alloc (by have := HX.out.size; have := hb2.size; omega) _
          have hres : RES = (c, L) := by
            rw [← HRES.out]
            unfold LS.set
            rw [if_pos HE.out]
            have e : parseAll texts = .error c := by
              rw [split_at HTT.out]
              exact parseAll_err HP.out HPP.out
            rw [e]
          go_ret
          exact ⟨by rw [hres]; rfl, n, D, by omega, by rw [hres]; exact H1.out.below hbb, grown_of_below (HB1.out.trans (hbb.mono HB1.out.size))⟩
        | ok r =>
          rw [hp] at C2
          simp only [parseV] at C2
          have HPP := Lib.hid hp
          have HC2 := Lib.hid C2
          clear hp C2
          obtain ⟨i0, hi, hz0, hz1, hz2⟩ := info_parts ruleInfo
          go_wp2_with fail
          refine HC2.out.mono ?_
          rintro e w2 ⟨rfl, hb2⟩
          have HS2 := ((HS.out.below hb2 (fun k hk => (HS.out.lt k hk).2)).alloc (.cells #[.bool r.allow, .bool r.inn, .bool r.out, .string r.by_, .string r.value] 138)).alloc (.cells #[.bool r.allow, .bool r.inn, .bool r.out, .string r.by_, .string r.value] 138)
          have hbb := ((HX.out.trans (hb2.mono HX.out.size)).alloc (by have := HX.out.size; have := hb2.size; omega) (.cells #[.bool r.allow, .bool r.inn, .bool r.out, .string r.by_, .string r.value] 138)).alloc (by have := HX.out.size; have := hb2.size; simp; omega) (.cells #[.bool r.allow, .bool r.inn, .bool r.out, .string r.by_, .string r.value] 138)
          have HBB := Lib.hid hbb
          clear hbb
          go_wp2_with (at_builtin; refine wpList_append_seq _ rfl _ _ 107 rfl w1.heap.size 138 i0 (.agg #[.bool false, .bool false, .bool false, .string ⟨#[]⟩, .string ⟨#[]⟩]) 5 40 Tryz.underlying107 hi hz0 hz1 hz2 rfl _ k (flatR rs) rfl HS2 ⟨w2.heap.size + 1, 0, none⟩ 1 1 [.bool r.allow, .bool r.inn, .bool r.out, .string r.by_, .string r.value] rfl rfl ?c1 ?c2 (by decide) ?c3 ?c4 ?c5 ?_)
          case c1 => intro j u hu; match j, hu with | 0, hu => simpa [go_sem, Addr.add] using hu | 1, hu => simpa [go_sem, Addr.add] using hu | 2, hu => simpa [go_sem, Addr.add] using hu | 3, hu => simpa [go_sem, Addr.add] using hu | 4, hu => simpa [go_sem, Addr.add] using hu
          case c2 => intro u hu; simp at hu; rcases hu with rfl | rfl | rfl | rfl | rfl <;> rfl
          case c3 => have := HNUM.out.2.1; unfold maxLen; omega
          case c4 => have := HNUM.out.2.1; omega
          case c5 => have := HX.out.size; have := hb2.size; simp; omega
          intro v' w5 hseq' hgrow hat
          have hb5 := HBB.out.grown hgrow HBB.out.size (fun j hj => (HS2.lt j hj).1)
          have HS5 := Lib.hid hseq'
          have HB5 := Lib.hid hb5
          clear HS2 hseq' hgrow hat hb5
          go_wp2_with fail
          go_roundg (texts.length - (k + 1))
          case measure => have := HK.out.2; omega
          case rel =>
            refine ⟨k + 1, rs ++ [r], by omega, rfl, by go_num, ?_, HB5.out, ?_⟩
            · rw [take_snoc HTT.out]; exact parseAll_snoc_ok HP.out HPP.out
            · rw [flatR_append]; exact HS5.out
      · have e : k = texts.length := by omega
        have hpall : parseAll texts = .ok rs := by
          have := HP.out
          rw [e, List.take_length] at this
          exact this
        subst e
        have t1 : decide ((texts.length : Int) < (texts.length : Int)) = false := by simp
        have HPA := Lib.hid hpall
        clear hpall HP HK hk
        have F0 : LAt wr.drew B lb mb n D L := H1.out.below HX.out.drew
        have hnl : name.size ≤ maxLen := by have := HNUM.out.1; unfold maxLen; omega
        have HNL := Lib.hid hnl
        clear hnl
        obtain ⟨bad, hbad⟩ : ∃ b, decide (L.rules < (texts.length : Int) ∨ ((L.get name).isSome = false ∧ L.most ≤ (L.items.length : Int))) = b := ⟨_, rfl⟩
        have HBAD := Lib.hid hbad
        clear hbad
        go_upto_region 13 with fail
        go_cut [61] (fun s61 wx => s61 = .bool bad ∧ Below wr.heap.size wr wx)
        case first =>
          by_cases hA : L.rules < (texts.length : Int)
          · as_aux_lemma =>
            have a1 : decide (L.rules < (texts.length : Int)) = true := by simpa using hA
            have e1 : bad = true := by rw [← HBAD.out]; simp [hA]
            have HE1 := Lib.hid e1
            clear e1
            refine wp_region_held_drew (S := (fun w' => w'.cell? ⟨lb, 0, none⟩ = some (.int .i64 L.most) ∧ w'.cell? ⟨lb, 1, none⟩ = some (.int .i64 L.rules) ∧ w'.cell? ⟨lb, 3, none⟩ = some (.map (some mb)) ∧ (Builtin.len_ #[93] 3 #[.map (some mb)]).run Tryz.prog w' = .ok (.int .i64 (L.items.length : Nat)) w')) (by kernel_rfl) ?_ (fun hHeld0 => ?_)
            · exact F0.facts
            refine held_take (v := ?_) 0 rfl rfl (by kernel_rfl) (by kernel_rfl) (by kernel_rfl) (fun _ _ _ h => h) (by rfl) ?_ (by assumption) ?_
            rotate_left
            · intro w hSw; (try dsimp only at hSw); go_simp; (try with_reducible rfl)
            try simp only [Act.put, List.setIfInBounds_toArray, List.set_cons_zero, List.set_cons_succ]
            refine held_take (v := ?_) 2 rfl rfl (by kernel_rfl) (by kernel_rfl) (by kernel_rfl) (fun _ _ _ h => h) (by rfl) ?_ (by assumption) ?_
            rotate_left
            · intro w hSw; (try dsimp only at hSw); go_simp; (try with_reducible rfl)
            try simp only [Act.put, List.setIfInBounds_toArray, List.set_cons_zero, List.set_cons_succ]
            refine held_take (v := ?_) 3 rfl rfl (by kernel_rfl) (by kernel_rfl) (by kernel_rfl) (fun _ _ _ h => h) (by rfl) ?_ (by assumption) ?_
            rotate_left
            · intro w hSw; (try dsimp only at hSw); go_simp; (try with_reducible rfl)
            try simp only [Act.put, List.setIfInBounds_toArray, List.set_cons_zero, List.set_cons_succ]
            refine held_take (v := ?_) 4 rfl rfl (by kernel_rfl) (by kernel_rfl) (by kernel_rfl) (fun _ _ _ h => h) (by rfl) ?_ (by assumption) ?_
            rotate_left
            · intro w hSw; (try dsimp only at hSw); go_simp; (try with_reducible rfl)
            try simp only [Act.put, List.setIfInBounds_toArray, List.set_cons_zero, List.set_cons_succ]
            refine held_take (v := ?_) 5 rfl rfl (by kernel_rfl) (by kernel_rfl) (by kernel_rfl) (fun _ _ _ h => h) (by rfl) ?_ (by assumption) ?_
            rotate_left
            · intro w hSw; (try dsimp only at hSw); go_simp; (try with_reducible rfl)
            try simp only [Act.put, List.setIfInBounds_toArray, List.set_cons_zero, List.set_cons_succ]
            refine held_take (v := ?_) 1 rfl rfl (by kernel_rfl) (by kernel_rfl) (by kernel_rfl) (fun _ _ _ h => h) (by rfl) ?_ (by assumption) ?_
            rotate_left
            · intro w hSw; (try dsimp only at hSw); go_simp; (try with_reducible rfl)
            try simp only [Act.put, List.setIfInBounds_toArray, List.set_cons_zero, List.set_cons_succ]
            refine held_take (v := ?_) 6 rfl rfl (by kernel_rfl) (by kernel_rfl) (by kernel_rfl) (fun _ _ _ h => h) (by rfl) ?_ (by assumption) ?_
            rotate_left
            · intro w hSw; (try dsimp only at hSw); go_simp; (try with_reducible rfl)
            try simp only [Act.put, List.setIfInBounds_toArray, List.set_cons_zero, List.set_cons_succ]
            refine held_take (v := ?_) 7 rfl rfl (by kernel_rfl) (by kernel_rfl) (by kernel_rfl) (fun _ _ _ h => h) (by rfl) ?_ (by assumption) ?_
            rotate_left
            · intro w hSw; (try dsimp only at hSw); go_simp; (try with_reducible rfl)
            try simp only [Act.put, List.setIfInBounds_toArray, List.set_cons_zero, List.set_cons_succ]
            refine held_skip 8 rfl rfl (by kernel_rfl) (by kernel_rfl) (by kernel_rfl) (fun _ _ _ h => h) (by rfl) (by assumption) ?_
            try simp only [Act.put, List.setIfInBounds_toArray, List.set_cons_zero, List.set_cons_succ]
            refine held_skip 9 rfl rfl (by kernel_rfl) (by kernel_rfl) (by kernel_rfl) (fun _ _ _ h => h) (by rfl) (by assumption) ?_
            try simp only [Act.put, List.setIfInBounds_toArray, List.set_cons_zero, List.set_cons_succ]
            refine held_skip 10 rfl rfl (by kernel_rfl) (by kernel_rfl) (by kernel_rfl) (fun _ _ _ h => h) (by rfl) (by assumption) ?_
            try simp only [Act.put, List.setIfInBounds_toArray, List.set_cons_zero, List.set_cons_succ]
            refine held_skip 11 rfl rfl (by kernel_rfl) (by kernel_rfl) (by kernel_rfl) (fun _ _ _ h => h) (by rfl) (by assumption) ?_
            try simp only [Act.put, List.setIfInBounds_toArray, List.set_cons_zero, List.set_cons_succ]
            refine held_skip 12 rfl rfl (by kernel_rfl) (by kernel_rfl) (by kernel_rfl) (fun _ _ _ h => h) (by rfl) (by assumption) ?_
            try simp only [Act.put, List.setIfInBounds_toArray, List.set_cons_zero, List.set_cons_succ]
            refine held_skip 13 rfl rfl (by kernel_rfl) (by kernel_rfl) (by kernel_rfl) (fun _ _ _ h => h) (by rfl) (by assumption) ?_
            try simp only [Act.put, List.setIfInBounds_toArray, List.set_cons_zero, List.set_cons_succ]
            refine held_skip 14 rfl rfl (by kernel_rfl) (by kernel_rfl) (by kernel_rfl) (fun _ _ _ h => h) (by rfl) (by assumption) ?_
            try simp only [Act.put, List.setIfInBounds_toArray, List.set_cons_zero, List.set_cons_succ]
            refine held_skip 15 rfl rfl (by kernel_rfl) (by kernel_rfl) (by kernel_rfl) (fun _ _ _ h => h) (by rfl) (by assumption) ?_
            try simp only [Act.put, List.setIfInBounds_toArray, List.set_cons_zero, List.set_cons_succ]
            refine held_skip 16 rfl rfl (by kernel_rfl) (by kernel_rfl) (by kernel_rfl) (fun _ _ _ h => h) (by rfl) (by assumption) ?_
            try simp only [Act.put, List.setIfInBounds_toArray, List.set_cons_zero, List.set_cons_succ]
            refine held_skip 17 rfl rfl (by kernel_rfl) (by kernel_rfl) (by kernel_rfl) (fun _ _ _ h => h) (by rfl) (by assumption) ?_
            try simp only [Act.put, List.setIfInBounds_toArray, List.set_cons_zero, List.set_cons_succ]
            refine held_skip 18 rfl rfl (by kernel_rfl) (by kernel_rfl) (by kernel_rfl) (fun _ _ _ h => h) (by rfl) (by assumption) ?_
            try simp only [Act.put, List.setIfInBounds_toArray, List.set_cons_zero, List.set_cons_succ]
            refine held_skip 19 rfl rfl (by kernel_rfl) (by kernel_rfl) (by kernel_rfl) (fun _ _ _ h => h) (by rfl) (by assumption) ?_
            try simp only [Act.put, List.setIfInBounds_toArray, List.set_cons_zero, List.set_cons_succ]
            refine held_skip 20 rfl rfl (by kernel_rfl) (by kernel_rfl) (by kernel_rfl) (fun _ _ _ h => h) (by rfl) (by assumption) ?_
            try simp only [Act.put, List.setIfInBounds_toArray, List.set_cons_zero, List.set_cons_succ]
            refine held_skip 21 rfl rfl (by kernel_rfl) (by kernel_rfl) (by kernel_rfl) (fun _ _ _ h => h) (by rfl) (by assumption) ?_
            try simp only [Act.put, List.setIfInBounds_toArray, List.set_cons_zero, List.set_cons_succ]
            refine held_skip 22 rfl rfl (by kernel_rfl) (by kernel_rfl) (by kernel_rfl) (fun _ _ _ h => h) (by rfl) (by assumption) ?_
            try simp only [Act.put, List.setIfInBounds_toArray, List.set_cons_zero, List.set_cons_succ]
            refine held_skip 23 rfl rfl (by kernel_rfl) (by kernel_rfl) (by kernel_rfl) (fun _ _ _ h => h) (by rfl) (by assumption) ?_
            try simp only [Act.put, List.setIfInBounds_toArray, List.set_cons_zero, List.set_cons_succ]
            refine held_take (v := ?_) 24 rfl rfl (by kernel_rfl) (by kernel_rfl) (by kernel_rfl) (fun _ _ _ h => h) (by rfl) ?_ (by assumption) ?_
            rotate_left
            · intro w hSw; (try dsimp only at hSw); go_simp; (try with_reducible rfl)
            try simp only [Act.put, List.setIfInBounds_toArray, List.set_cons_zero, List.set_cons_succ]
            refine wpAnyH_done (by kernel_rfl) ?_ _
            clear hHeld0
            go_wp2_with fail
            go_meet
            exact ⟨by rw [HE1.out], (Below.refl _ _).drew⟩
          · have a1 : decide (L.rules < (texts.length : Int)) = false := by simpa using hA
            have C6 := has_any F0 name HNL.out
            cases hG : (L.get name).isSome
            · as_aux_lemma =>
              rw [hG] at C6
              have HC6 := Lib.hid C6
              have e1 : bad = decide (L.most ≤ (L.items.length : Int)) := by rw [← HBAD.out]; simp [hA, hG]
              have HE1 := Lib.hid e1
              clear e1 C6 hG
              refine wp_region_held_drew (S := (fun w' => w'.cell? ⟨lb, 0, none⟩ = some (.int .i64 L.most) ∧ w'.cell? ⟨lb, 1, none⟩ = some (.int .i64 L.rules) ∧ w'.cell? ⟨lb, 3, none⟩ = some (.map (some mb)) ∧ (Builtin.len_ #[93] 3 #[.map (some mb)]).run Tryz.prog w' = .ok (.int .i64 (L.items.length : Nat)) w')) (by kernel_rfl) ?_ (fun hHeld0 => ?_)
              · exact F0.facts
              refine held_take (v := ?_) 0 rfl rfl (by kernel_rfl) (by kernel_rfl) (by kernel_rfl) (fun _ _ _ h => h) (by rfl) ?_ (by assumption) ?_
              rotate_left
              · intro w hSw; (try dsimp only at hSw); go_simp; (try with_reducible rfl)
              try simp only [Act.put, List.setIfInBounds_toArray, List.set_cons_zero, List.set_cons_succ]
              refine held_take (v := ?_) 2 rfl rfl (by kernel_rfl) (by kernel_rfl) (by kernel_rfl) (fun _ _ _ h => h) (by rfl) ?_ (by assumption) ?_
              rotate_left
              · intro w hSw; (try dsimp only at hSw); go_simp; (try with_reducible rfl)
              try simp only [Act.put, List.setIfInBounds_toArray, List.set_cons_zero, List.set_cons_succ]
              refine held_take (v := ?_) 3 rfl rfl (by kernel_rfl) (by kernel_rfl) (by kernel_rfl) (fun _ _ _ h => h) (by rfl) ?_ (by assumption) ?_
              rotate_left
              · intro w hSw; (try dsimp only at hSw); go_simp; (try with_reducible rfl)
              try simp only [Act.put, List.setIfInBounds_toArray, List.set_cons_zero, List.set_cons_succ]
              refine held_take (v := ?_) 4 rfl rfl (by kernel_rfl) (by kernel_rfl) (by kernel_rfl) (fun _ _ _ h => h) (by rfl) ?_ (by assumption) ?_
              rotate_left
              · intro w hSw; (try dsimp only at hSw); go_simp; (try with_reducible rfl)
              try simp only [Act.put, List.setIfInBounds_toArray, List.set_cons_zero, List.set_cons_succ]
              refine held_take (v := ?_) 5 rfl rfl (by kernel_rfl) (by kernel_rfl) (by kernel_rfl) (fun _ _ _ h => h) (by rfl) ?_ (by assumption) ?_
              rotate_left
              · intro w hSw; (try dsimp only at hSw); go_simp; (try with_reducible rfl)
              try simp only [Act.put, List.setIfInBounds_toArray, List.set_cons_zero, List.set_cons_succ]
              refine held_take (v := ?_) 1 rfl rfl (by kernel_rfl) (by kernel_rfl) (by kernel_rfl) (fun _ _ _ h => h) (by rfl) ?_ (by assumption) ?_
              rotate_left
              · intro w hSw; (try dsimp only at hSw); go_simp; (try with_reducible rfl)
              try simp only [Act.put, List.setIfInBounds_toArray, List.set_cons_zero, List.set_cons_succ]
              refine held_take (v := ?_) 6 rfl rfl (by kernel_rfl) (by kernel_rfl) (by kernel_rfl) (fun _ _ _ h => h) (by rfl) ?_ (by assumption) ?_
              rotate_left
              · intro w hSw; (try dsimp only at hSw); go_simp; (try with_reducible rfl)
              try simp only [Act.put, List.setIfInBounds_toArray, List.set_cons_zero, List.set_cons_succ]
              refine held_take (v := ?_) 7 rfl rfl (by kernel_rfl) (by kernel_rfl) (by kernel_rfl) (fun _ _ _ h => h) (by rfl) ?_ (by assumption) ?_
              rotate_left
              · intro w hSw; (try dsimp only at hSw); go_simp; (try with_reducible rfl)
              try simp only [Act.put, List.setIfInBounds_toArray, List.set_cons_zero, List.set_cons_succ]
              refine held_take (v := ?_) 8 rfl rfl (by kernel_rfl) (by kernel_rfl) (by kernel_rfl) (fun _ _ _ h => h) (by rfl) ?_ (by assumption) ?_
              rotate_left
              · intro w hSw; (try dsimp only at hSw); go_simp; (try with_reducible rfl)
              try simp only [Act.put, List.setIfInBounds_toArray, List.set_cons_zero, List.set_cons_succ]
              refine held_take (v := ?_) 9 rfl rfl (by kernel_rfl) (by kernel_rfl) (by kernel_rfl) (fun _ _ _ h => h) (by rfl) ?_ (by assumption) ?_
              rotate_left
              · intro w hSw; (try dsimp only at hSw); go_simp; (try with_reducible rfl)
              try simp only [Act.put, List.setIfInBounds_toArray, List.set_cons_zero, List.set_cons_succ]
              refine held_step 10 rfl (by kernel_rfl) (by rfl) (fun K hK => ?_)
              go_simp
              refine HC6.out.mono ?_
              rintro e w6 ⟨rfl, hb6⟩
              try go_wp2_with fail
              refine hK.out _ _ ?_ (fun hHeld1 => ?_)
              · exact (F0.below hb6).facts
              clear hK K hHeld0
              try simp only [Act.put, List.setIfInBounds_toArray, List.set_cons_zero, List.set_cons_succ]
              refine held_take (v := ?_) 11 rfl rfl (by kernel_rfl) (by kernel_rfl) (by kernel_rfl) (fun _ _ _ h => h) (by rfl) ?_ (by assumption) ?_
              rotate_left
              · intro w hSw; (try dsimp only at hSw); go_simp; (try with_reducible rfl)
              try simp only [Act.put, List.setIfInBounds_toArray, List.set_cons_zero, List.set_cons_succ]
              refine held_take (v := ?_) 12 rfl rfl (by kernel_rfl) (by kernel_rfl) (by kernel_rfl) (fun _ _ _ h => h) (by rfl) ?_ (by assumption) ?_
              rotate_left
              · intro w hSw; (try dsimp only at hSw); go_simp; (try with_reducible rfl)
              try simp only [Act.put, List.setIfInBounds_toArray, List.set_cons_zero, List.set_cons_succ]
              refine held_take (v := ?_) 13 rfl rfl (by kernel_rfl) (by kernel_rfl) (by kernel_rfl) (fun _ _ _ h => h) (by rfl) ?_ (by assumption) ?_
              rotate_left
              · intro w hSw; (try dsimp only at hSw); go_simp; (try with_reducible rfl)
              try simp only [Act.put, List.setIfInBounds_toArray, List.set_cons_zero, List.set_cons_succ]
              refine held_take (v := ?_) 14 rfl rfl (by kernel_rfl) (by kernel_rfl) (by kernel_rfl) (fun _ _ _ h => h) (by rfl) ?_ (by assumption) ?_
              rotate_left
              · intro w hSw; (try dsimp only at hSw); go_simp; (try with_reducible rfl)
              try simp only [Act.put, List.setIfInBounds_toArray, List.set_cons_zero, List.set_cons_succ]
              refine held_take (v := ?_) 15 rfl rfl (by kernel_rfl) (by kernel_rfl) (by kernel_rfl) (fun _ _ _ h => h) (by rfl) ?_ (by assumption) ?_
              rotate_left
              · intro w hSw; (try dsimp only at hSw); go_simp; (try with_reducible rfl)
              try simp only [Act.put, List.setIfInBounds_toArray, List.set_cons_zero, List.set_cons_succ]
              refine held_take (v := ?_) 16 rfl rfl (by kernel_rfl) (by kernel_rfl) (by kernel_rfl) (fun _ _ _ h => h) (by rfl) ?_ (by assumption) ?_
              rotate_left
              · intro w hSw; (try dsimp only at hSw); go_simp; (try with_reducible rfl)
              try simp only [Act.put, List.setIfInBounds_toArray, List.set_cons_zero, List.set_cons_succ]
              refine held_take (v := ?_) 18 rfl rfl (by kernel_rfl) (by kernel_rfl) (by kernel_rfl) (fun _ _ _ h => h) (by rfl) ?_ (by assumption) ?_
              rotate_left
              · intro w hSw; (try dsimp only at hSw); go_simp; (try with_reducible rfl)
              try simp only [Act.put, List.setIfInBounds_toArray, List.set_cons_zero, List.set_cons_succ]
              refine held_take (v := ?_) 19 rfl rfl (by kernel_rfl) (by kernel_rfl) (by kernel_rfl) (fun _ _ _ h => h) (by rfl) ?_ (by assumption) ?_
              rotate_left
              · intro w hSw; (try dsimp only at hSw); go_simp; (try with_reducible rfl)
              try simp only [Act.put, List.setIfInBounds_toArray, List.set_cons_zero, List.set_cons_succ]
              refine held_take (v := ?_) 20 rfl rfl (by kernel_rfl) (by kernel_rfl) (by kernel_rfl) (fun _ _ _ h => h) (by rfl) ?_ (by assumption) ?_
              rotate_left
              · intro w hSw; (try dsimp only at hSw); go_simp; (try with_reducible rfl)
              try simp only [Act.put, List.setIfInBounds_toArray, List.set_cons_zero, List.set_cons_succ]
              refine held_take (v := ?_) 21 rfl rfl (by kernel_rfl) (by kernel_rfl) (by kernel_rfl) (fun _ _ _ h => h) (by rfl) ?_ (by assumption) ?_
              rotate_left
              · intro w hSw; (try dsimp only at hSw); go_simp; (try with_reducible rfl)
              try simp only [Act.put, List.setIfInBounds_toArray, List.set_cons_zero, List.set_cons_succ]
              refine held_take (v := ?_) 17 rfl rfl (by kernel_rfl) (by kernel_rfl) (by kernel_rfl) (fun _ _ _ h => h) (by rfl) ?_ (by assumption) ?_
              rotate_left
              · intro w hSw; (try dsimp only at hSw); go_simp; (try with_reducible rfl)
              try simp only [Act.put, List.setIfInBounds_toArray, List.set_cons_zero, List.set_cons_succ]
              refine held_take (v := ?_) 22 rfl rfl (by kernel_rfl) (by kernel_rfl) (by kernel_rfl) (fun _ _ _ h => h) (by rfl) ?_ (by assumption) ?_
              rotate_left
              · intro w hSw; (try dsimp only at hSw); go_simp; (try with_reducible rfl)
              try simp only [Act.put, List.setIfInBounds_toArray, List.set_cons_zero, List.set_cons_succ]
              refine held_take (v := ?_) 23 rfl rfl (by kernel_rfl) (by kernel_rfl) (by kernel_rfl) (fun _ _ _ h => h) (by rfl) ?_ (by assumption) ?_
              rotate_left
              · intro w hSw; (try dsimp only at hSw); go_simp; (try with_reducible rfl)
              try simp only [Act.put, List.setIfInBounds_toArray, List.set_cons_zero, List.set_cons_succ]
              refine held_take (v := ?_) 24 rfl rfl (by kernel_rfl) (by kernel_rfl) (by kernel_rfl) (fun _ _ _ h => h) (by rfl) ?_ (by assumption) ?_
              rotate_left
              · intro w hSw; (try dsimp only at hSw); go_simp; (try with_reducible rfl)
              try simp only [Act.put, List.setIfInBounds_toArray, List.set_cons_zero, List.set_cons_succ]
              refine wpAnyH_done (by kernel_rfl) ?_ _
              clear hHeld1
              go_wp2_with fail
              go_meet
              exact ⟨by rw [HE1.out], below_undrew hb6⟩
            · as_aux_lemma =>
              rw [hG] at C6
              have HC6 := Lib.hid C6
              have e1 : bad = false := by rw [← HBAD.out]; simp [hA, hG]
              have HE1 := Lib.hid e1
              clear e1 C6 hG
              refine wp_region_held_drew (S := (fun w' => w'.cell? ⟨lb, 0, none⟩ = some (.int .i64 L.most) ∧ w'.cell? ⟨lb, 1, none⟩ = some (.int .i64 L.rules) ∧ w'.cell? ⟨lb, 3, none⟩ = some (.map (some mb)) ∧ (Builtin.len_ #[93] 3 #[.map (some mb)]).run Tryz.prog w' = .ok (.int .i64 (L.items.length : Nat)) w')) (by kernel_rfl) ?_ (fun hHeld0 => ?_)
              · exact F0.facts
              refine held_take (v := ?_) 0 rfl rfl (by kernel_rfl) (by kernel_rfl) (by kernel_rfl) (fun _ _ _ h => h) (by rfl) ?_ (by assumption) ?_
              rotate_left
              · intro w hSw; (try dsimp only at hSw); go_simp; (try with_reducible rfl)
              try simp only [Act.put, List.setIfInBounds_toArray, List.set_cons_zero, List.set_cons_succ]
              refine held_take (v := ?_) 2 rfl rfl (by kernel_rfl) (by kernel_rfl) (by kernel_rfl) (fun _ _ _ h => h) (by rfl) ?_ (by assumption) ?_
              rotate_left
              · intro w hSw; (try dsimp only at hSw); go_simp; (try with_reducible rfl)
              try simp only [Act.put, List.setIfInBounds_toArray, List.set_cons_zero, List.set_cons_succ]
              refine held_take (v := ?_) 3 rfl rfl (by kernel_rfl) (by kernel_rfl) (by kernel_rfl) (fun _ _ _ h => h) (by rfl) ?_ (by assumption) ?_
              rotate_left
              · intro w hSw; (try dsimp only at hSw); go_simp; (try with_reducible rfl)
              try simp only [Act.put, List.setIfInBounds_toArray, List.set_cons_zero, List.set_cons_succ]
              refine held_take (v := ?_) 4 rfl rfl (by kernel_rfl) (by kernel_rfl) (by kernel_rfl) (fun _ _ _ h => h) (by rfl) ?_ (by assumption) ?_
              rotate_left
              · intro w hSw; (try dsimp only at hSw); go_simp; (try with_reducible rfl)
              try simp only [Act.put, List.setIfInBounds_toArray, List.set_cons_zero, List.set_cons_succ]
              refine held_take (v := ?_) 5 rfl rfl (by kernel_rfl) (by kernel_rfl) (by kernel_rfl) (fun _ _ _ h => h) (by rfl) ?_ (by assumption) ?_
              rotate_left
              · intro w hSw; (try dsimp only at hSw); go_simp; (try with_reducible rfl)
              try simp only [Act.put, List.setIfInBounds_toArray, List.set_cons_zero, List.set_cons_succ]
              refine held_take (v := ?_) 1 rfl rfl (by kernel_rfl) (by kernel_rfl) (by kernel_rfl) (fun _ _ _ h => h) (by rfl) ?_ (by assumption) ?_
              rotate_left
              · intro w hSw; (try dsimp only at hSw); go_simp; (try with_reducible rfl)
              try simp only [Act.put, List.setIfInBounds_toArray, List.set_cons_zero, List.set_cons_succ]
              refine held_take (v := ?_) 6 rfl rfl (by kernel_rfl) (by kernel_rfl) (by kernel_rfl) (fun _ _ _ h => h) (by rfl) ?_ (by assumption) ?_
              rotate_left
              · intro w hSw; (try dsimp only at hSw); go_simp; (try with_reducible rfl)
              try simp only [Act.put, List.setIfInBounds_toArray, List.set_cons_zero, List.set_cons_succ]
              refine held_take (v := ?_) 7 rfl rfl (by kernel_rfl) (by kernel_rfl) (by kernel_rfl) (fun _ _ _ h => h) (by rfl) ?_ (by assumption) ?_
              rotate_left
              · intro w hSw; (try dsimp only at hSw); go_simp; (try with_reducible rfl)
              try simp only [Act.put, List.setIfInBounds_toArray, List.set_cons_zero, List.set_cons_succ]
              refine held_take (v := ?_) 8 rfl rfl (by kernel_rfl) (by kernel_rfl) (by kernel_rfl) (fun _ _ _ h => h) (by rfl) ?_ (by assumption) ?_
              rotate_left
              · intro w hSw; (try dsimp only at hSw); go_simp; (try with_reducible rfl)
              try simp only [Act.put, List.setIfInBounds_toArray, List.set_cons_zero, List.set_cons_succ]
              refine held_take (v := ?_) 9 rfl rfl (by kernel_rfl) (by kernel_rfl) (by kernel_rfl) (fun _ _ _ h => h) (by rfl) ?_ (by assumption) ?_
              rotate_left
              · intro w hSw; (try dsimp only at hSw); go_simp; (try with_reducible rfl)
              try simp only [Act.put, List.setIfInBounds_toArray, List.set_cons_zero, List.set_cons_succ]
              refine held_step 10 rfl (by kernel_rfl) (by rfl) (fun K hK => ?_)
              go_simp
              refine HC6.out.mono ?_
              rintro e w6 ⟨rfl, hb6⟩
              try go_wp2_with fail
              refine hK.out _ _ ?_ (fun hHeld1 => ?_)
              · exact (F0.below hb6).facts
              clear hK K hHeld0
              try simp only [Act.put, List.setIfInBounds_toArray, List.set_cons_zero, List.set_cons_succ]
              refine held_take (v := ?_) 11 rfl rfl (by kernel_rfl) (by kernel_rfl) (by kernel_rfl) (fun _ _ _ h => h) (by rfl) ?_ (by assumption) ?_
              rotate_left
              · intro w hSw; (try dsimp only at hSw); go_simp; (try with_reducible rfl)
              try simp only [Act.put, List.setIfInBounds_toArray, List.set_cons_zero, List.set_cons_succ]
              refine held_take (v := ?_) 12 rfl rfl (by kernel_rfl) (by kernel_rfl) (by kernel_rfl) (fun _ _ _ h => h) (by rfl) ?_ (by assumption) ?_
              rotate_left
              · intro w hSw; (try dsimp only at hSw); go_simp; (try with_reducible rfl)
              try simp only [Act.put, List.setIfInBounds_toArray, List.set_cons_zero, List.set_cons_succ]
              refine held_skip 13 rfl rfl (by kernel_rfl) (by kernel_rfl) (by kernel_rfl) (fun _ _ _ h => h) (by rfl) (by assumption) ?_
              try simp only [Act.put, List.setIfInBounds_toArray, List.set_cons_zero, List.set_cons_succ]
              refine held_skip 14 rfl rfl (by kernel_rfl) (by kernel_rfl) (by kernel_rfl) (fun _ _ _ h => h) (by rfl) (by assumption) ?_
              try simp only [Act.put, List.setIfInBounds_toArray, List.set_cons_zero, List.set_cons_succ]
              refine held_skip 15 rfl rfl (by kernel_rfl) (by kernel_rfl) (by kernel_rfl) (fun _ _ _ h => h) (by rfl) (by assumption) ?_
              try simp only [Act.put, List.setIfInBounds_toArray, List.set_cons_zero, List.set_cons_succ]
              refine held_skip 16 rfl rfl (by kernel_rfl) (by kernel_rfl) (by kernel_rfl) (fun _ _ _ h => h) (by rfl) (by assumption) ?_
              try simp only [Act.put, List.setIfInBounds_toArray, List.set_cons_zero, List.set_cons_succ]
              refine held_skip 17 rfl rfl (by kernel_rfl) (by kernel_rfl) (by kernel_rfl) (fun _ _ _ h => h) (by rfl) (by assumption) ?_
              try simp only [Act.put, List.setIfInBounds_toArray, List.set_cons_zero, List.set_cons_succ]
              refine held_skip 18 rfl rfl (by kernel_rfl) (by kernel_rfl) (by kernel_rfl) (fun _ _ _ h => h) (by rfl) (by assumption) ?_
              try simp only [Act.put, List.setIfInBounds_toArray, List.set_cons_zero, List.set_cons_succ]
              refine held_skip 19 rfl rfl (by kernel_rfl) (by kernel_rfl) (by kernel_rfl) (fun _ _ _ h => h) (by rfl) (by assumption) ?_
              try simp only [Act.put, List.setIfInBounds_toArray, List.set_cons_zero, List.set_cons_succ]
              refine held_skip 20 rfl rfl (by kernel_rfl) (by kernel_rfl) (by kernel_rfl) (fun _ _ _ h => h) (by rfl) (by assumption) ?_
              try simp only [Act.put, List.setIfInBounds_toArray, List.set_cons_zero, List.set_cons_succ]
              refine held_skip 21 rfl rfl (by kernel_rfl) (by kernel_rfl) (by kernel_rfl) (fun _ _ _ h => h) (by rfl) (by assumption) ?_
              try simp only [Act.put, List.setIfInBounds_toArray, List.set_cons_zero, List.set_cons_succ]
              refine held_skip 22 rfl rfl (by kernel_rfl) (by kernel_rfl) (by kernel_rfl) (fun _ _ _ h => h) (by rfl) (by assumption) ?_
              try simp only [Act.put, List.setIfInBounds_toArray, List.set_cons_zero, List.set_cons_succ]
              refine held_take (v := ?_) 23 rfl rfl (by kernel_rfl) (by kernel_rfl) (by kernel_rfl) (fun _ _ _ h => h) (by rfl) ?_ (by assumption) ?_
              rotate_left
              · intro w hSw; (try dsimp only at hSw); go_simp; (try with_reducible rfl)
              try simp only [Act.put, List.setIfInBounds_toArray, List.set_cons_zero, List.set_cons_succ]
              refine held_take (v := ?_) 24 rfl rfl (by kernel_rfl) (by kernel_rfl) (by kernel_rfl) (fun _ _ _ h => h) (by rfl) ?_ (by assumption) ?_
              rotate_left
              · intro w hSw; (try dsimp only at hSw); go_simp; (try with_reducible rfl)
              try simp only [Act.put, List.setIfInBounds_toArray, List.set_cons_zero, List.set_cons_succ]
              refine wpAnyH_done (by kernel_rfl) ?_ _
              clear hHeld1
              go_wp2_with fail
              go_meet
              exact ⟨by rw [HE1.out], below_undrew hb6⟩
        case rest =>
          obtain ⟨rfl, hbz⟩ := hcut
          have HZ := Lib.hid (HX.out.trans (hbz.mono HX.out.size))
          have HLZ := Lib.hid (H1.out.below HZ.out)
          have HSZ2 := Lib.hid (HS.out.below hbz (fun k hk => (HS.out.lt k hk).2))
          clear hbz F0
          cases bad
          · have hres : RES = (0, L.put name rs) := by
              rw [← HRES.out]
              unfold LS.set
              rw [if_pos HE.out, HPA.out]
              have hb := HBAD.out
              rw [decide_eq_false_iff_not] at hb
              simp only [HRL.out]
              rw [if_neg hb]
            have HR := Lib.hid hres
            have c3 : wc.cell? ⟨lb, 3, none⟩ = some (.map (some mb)) := blk_cell HLZ.out.cells 3
            clear hres
            go_wp2_with (at_mapUpdate; refine wpList_mapUpdate_in _ rfl _ _ _ 93 rfl 9 107 (string_keyed Tryz.underlying9) Tryz.underlying93 tokR mb n D rfl HLZ.out.own ?n1 _ _ (keyL name) rfl rfl (WideMaps.keyOf_string_mk Tryz.underlying9 HNL.out) (.held (.slice A8 texts.length c8)) [] rfl ?_)
            case n1 => have := HNUM.out.2.2.1; unfold maxLen; omega
            intro w7 hown7 hturn7
            have h8 : Seq wc w1.heap.size 138 5 (.slice A8 texts.length c8) rs.length (flatR rs) := by rw [HRL.out]; exact HSZ2.out
            have hsm : ∀ r ∈ rs, r.value.size ≤ 4294967296 := by
              intro r hr
              obtain ⟨t, ht, e⟩ := (parseAll_mem HPA.out).2 r hr
              have := parseF_small e
              have := HSZ.out t ht
              omega
            have hfin := LAt.store HLZ.out (by have := HNUM.out.2.2.2; have := HB1.out.size; omega) h8 hsm hown7 hturn7
            have hgr := (grown_of_below (row := some mb) (HB1.out.trans (HZ.out.mono HB1.out.size))).trans hturn7.grown
            have HF := Lib.hid (And.intro hfin hgr)
            clear h8 hsm hown7 hturn7 hfin hgr
            go_wp2_with fail
            go_ret
            exact ⟨by rw [HR.out]; rfl, n + 1, _, by omega, by rw [HR.out]; exact HF.out.1, HF.out.2⟩
          · have hres : RES = (8, L) := by
              rw [← HRES.out]
              unfold LS.set
              rw [if_pos HE.out, HPA.out]
              have hb := HBAD.out
              rw [decide_eq_true_eq] at hb
              simp only [HRL.out]
              rw [if_pos hb]
            have HR := Lib.hid hres
            clear hres
            go_wp2_with fail
            go_ret
            exact ⟨by rw [HR.out]; rfl, n, D, by omega, by rw [HR.out]; exact HLZ.out, grown_of_below (HB1.out.trans (HZ.out.mono HB1.out.size))⟩
  · have n0 : (E == 0) = false := by simpa using h0
    have n1 : (E != 0) = true := by simpa using h0
    have hres : RES = (E, L) := by
      rw [← HRES.out]
      unfold LS.set
      rw [if_neg (by rw [HE.out]; exact h0), HE.out]
    have HR := Lib.hid hres
    clear h0 hres
    go_enter Tryz.func36, Tryz.ntmps36
    go_wp2_with fail
    refine HC1.out.mono ?_
    rintro e w1 ⟨rfl, hb1⟩
    go_wp2_with fail
    go_ret
    exact ⟨by rw [HR.out]; rfl, n, D, by omega, by rw [HR.out]; exact H.out.below hb1, grown_of_below hb1⟩

end Go.Proofs.YthbjcihdlhkboaaGreatDoor
