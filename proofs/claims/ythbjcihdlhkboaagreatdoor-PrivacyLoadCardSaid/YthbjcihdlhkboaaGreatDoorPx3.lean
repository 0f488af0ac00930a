/- The reference's lists: Set. -/
import Derived.Test.YthbjcihdlhkboaaGreatDoorPx2
import Derived.Deep.RegionHeld3
namespace Go.Proofs.YthbjcihdlhkboaaGreatDoor
set_option linter.unusedSimpArgs false
set_option linter.unusedVariables false
open Go.RowKit Go.Maps Go.Shelf Go.Lib

/-- Blocks that Set may write: the box, and the outer blocks of its columns. -/
def Ks17 (w : World) (B qb k : Nat) : Prop := k = qb ∨ (B ≤ k ∧ ∃ cur, w.heap[k]? = some (.cells cur 32 (0, 0)) ∨ w.heap[k]? = some (.cells cur 107 (0, 0)))

theorem Seq.len_eq {w : World} {B : Nat} {e : TypeId} {sz n : Nat} {v : Value} {xs : List Value} (h : Seq w B e sz v n xs) : xs.length = n * sz := h.1

/-- A cell of an own slice of one-cell elements is written. -/
theorem Seq.write {w : World} {B : Nat} {e : TypeId} {n c k b off : Nat} {xs : List Value} (h : Seq w B e 1 (.slice (some ⟨b, off, none⟩) n c) n xs) (hk : k < n) (u : Value) :
    Seq (w.setCell ⟨b, off + k, none⟩ u) B e 1 (.slice (some ⟨b, off, none⟩) n c) n (xs.set k u) := by
  rcases h.2 with ⟨hv, _⟩ | ⟨g, off', cap, cur, hv, hb, hg, hc, hm, hsz, htk⟩
  · cases hv
  · cases hv
    refine ⟨by rw [List.length_set]; exact h.1, .inr ⟨b, off, c, cur.setIfInBounds (off + k) u, rfl, hb, blk_set_same hg _ _, hc, hm, by simpa using hsz, ?_⟩⟩
    rw [← htk]
    simp only [Array.toList_setIfInBounds]
    rw [List.drop_set, if_neg (by omega), List.take_set]
    congr 1
    omega

/-- A row is laid anew in its place. -/
theorem RfW.write {w : World} {B qb p : Nat} {S : RL} {vn : Value} {rows : List RowV} {bT oT cT bR oR cR : Nat} (h : RfW w B qb S vn (.slice (some ⟨bT, oT, none⟩) rows.length cT) (.slice (some ⟨bR, oR, none⟩) rows.length cR) rows)
    {r : RowV} (hp : rows[p]? = some r) {tv rv : Value} {texts : List ByteArray} {rules : List Rule} (ht : TxtAt w B tv texts) (hr : RulAt w B rv rules) :
    RfW ((w.setCell ⟨bT, oT + p, none⟩ tv).setCell ⟨bR, oR + p, none⟩ rv) B qb { S with rows := S.rows.set p ⟨r.row.name, texts, rules⟩ } vn (.slice (some ⟨bT, oT, none⟩) rows.length cT) (.slice (some ⟨bR, oR, none⟩) rows.length cR) (rows.set p ⟨⟨r.row.name, texts, rules⟩, tv, rv⟩) := by
  have hpl : p < rows.length := (List.getElem?_eq_some_iff.1 hp).1
  obtain ⟨curT, hT⟩ := h.texts.block bT rfl
  obtain ⟨curR, hR⟩ := h.rules.block bR rfl
  have n1 : qb ≠ bT := by intro e; have := h.cells; rw [e, hT] at this; simp at this
  have n2 : qb ≠ bR := by intro e; have := h.cells; rw [e, hR] at this; simp at this
  have n3 : bR ≠ bT := by intro e; rw [e, hT] at hR; simp at hR
  have hR1 := blk_set_other hR (a := ⟨bT, oT + p, none⟩) tv n3
  have keep : ∀ {e : TypeId} {sz n : Nat} {v : Value} {xs : List Value}, Seq w B e sz v n xs → 32 ≠ e → 107 ≠ e → Seq ((w.setCell ⟨bT, oT + p, none⟩ tv).setCell ⟨bR, oR + p, none⟩ rv) B e sz v n xs :=
    fun hs h1 h2 => (hs.set_ty hT h1 (oT + p) tv).set_ty hR1 h2 (oR + p) rv
  have hnm : nmL (rows.set p ⟨⟨r.row.name, texts, rules⟩, tv, rv⟩) = nmL rows := by
    unfold nmL
    rw [List.map_set]
    apply List.ext_getElem?
    intro j
    rw [List.getElem?_set]
    split
    · rename_i e; subst e
      obtain ⟨_, e⟩ := List.getElem?_eq_some_iff.1 hp
      simp [hpl, e]
    · rfl
  exact {
    eq := by rw [List.map_set, h.eq]
    cells := blk_set_other (blk_set_other h.cells tv n1) rv n2
    names := by rw [List.length_set, hnm]; exact keep h.names (by decide) (by decide)
    texts := by
      rw [List.length_set]
      have := (h.texts.write hpl tv).set_ty hR1 (by decide) (oR + p) rv
      unfold tvL at this ⊢
      rw [List.map_set]
      exact this
    rules := by
      rw [List.length_set]
      have := (h.rules.set_ty hT (by decide) (oT + p) tv).write hpl rv
      unfold rvL at this ⊢
      rw [List.map_set]
      exact this
    each := fun q hq => by
      have hh : TxtAt w B q.tv q.row.texts ∧ RulAt w B q.rv q.row.rules := by
        rcases List.mem_or_eq_of_mem_set hq with hq | rfl
        · exact h.each q hq
        · exact ⟨ht, hr⟩
      exact ⟨keep hh.1 (by decide) (by decide), keep hh.2 (by decide) (by decide)⟩
    lo := h.lo }

set_option maxRecDepth 100000 in
set_option maxHeartbeats 16000000 in
theorem rset17_av {w : World} {B qb x : Nat} {S : RL} (h : RfAv w B qb S x) (hx : x < w.heap.size) (name : ByteArray) (hnm : name.size ≤ 1000000) (v : Value) (texts : List ByteArray) (hg : Strs w v texts)
    (hlen : texts.length ≤ 1000000) (hsz : ∀ t ∈ texts, t.size ≤ 1000000) (hn : S.rows.length ≤ 1000000) (hBw : B ≤ w.heap.size) :
    Calls Tryz.prog 37 #[.pointer (some ⟨qb, 0, none⟩), .string name, v] w fun e w' => e = .returned (.int .i64 (S.set name texts).1) ∧ RfAv w' B qb (S.set name texts).2 x ∧ Upd w.heap.size (Ks17 w B qb) w w' := by
  obtain ⟨A, cap, hv⟩ : ∃ A cap, v = .slice A texts.length cap := let ⟨⟨A, cap, h, _⟩, _⟩ := hg; ⟨A, cap, h⟩
  subst hv
  obtain ⟨RES, hRES⟩ : ∃ R, S.set name texts = R := ⟨_, rfl⟩
  rw [hRES]
  have C1 := refword_any name (validB name) w (fun h64 W' => refvalid_any _ (by omega) W')
  have HRES := Lib.hid hRES
  have HV := Lib.hid (And.intro h hx)
  have h := h.at
  have H := Lib.hid h
  have HG := Lib.hid hg
  have HSZ := Lib.hid hsz
  have HNUM := Lib.hid (And.intro hnm (And.intro hlen (And.intro hn hBw)))
  clear h hg hsz hRES hnm hlen hn hBw
  obtain ⟨E, hE⟩ : ∃ E, wordE name (validB name) = E := ⟨_, rfl⟩
  rw [hE] at C1
  have HE := Lib.hid hE
  have HC1 := Lib.hid C1
  clear hE C1
  by_cases h0 : E = 0
  · subst h0
    go_enter Tryz.func37, Tryz.ntmps37
    go_wp2_with fail
    refine HC1.out.mono ?_
    rintro e w1 ⟨rfl, hb1⟩
    have H1 := Lib.hid (H.out.below hb1)
    have HG1 := Lib.hid (HG.out.below hb1)
    have HB1 := Lib.hid hb1
    clear hb1 HG HC1
    go_wp2_with fail
    go_loopg [8, 9, 10] texts.length (fun g s8 s9 s10 wx => ∃ (k : Nat) (rs : List Rule), k ≤ texts.length ∧ g = texts.length - k ∧ s10 = .int .i64 k ∧ parseAll (texts.take k) = .ok rs ∧ Below w1.heap.size w1 wx ∧ Seq wx w1.heap.size 138 5 s8 k (flatR rs) ∧ Seq wx w1.heap.size 9 1 s9 k (flatS (rs.map refWriteS)))
    case atStart => exact ⟨0, [], by omega, rfl, rfl, rfl, Below.refl _ _, Seq.nil _ _ _ _, Seq.nil _ _ _ _⟩
    case round =>
      obtain ⟨k, rs, hk, hgk, rfl, hpa, hbx, hseq, hseq2⟩ := hrel
      obtain ⟨A8, c8, rfl⟩ := hseq.shape
      obtain ⟨A9, c9, rfl⟩ := hseq2.shape
      have HP := Lib.hid hpa
      have HX := Lib.hid hbx
      have HS := Lib.hid (And.intro hseq hseq2)
      have HK := Lib.hid (And.intro hk hgk)
      have hrl : rs.length = k := by
        have := (parseAll_mem hpa).1
        rw [List.length_take] at this
        omega
      have HRL := Lib.hid hrl
      clear hpa hbx hseq hseq2 hgk hrl
      by_cases hlt : k < texts.length
      · obtain ⟨t, ht⟩ : ∃ t, texts[k]? = some t := ⟨_, List.getElem?_eq_getElem hlt⟩
        obtain ⟨b, off, rfl, y⟩ : ∃ b off, A = some ⟨b, off, none⟩ ∧ wr.cell? ⟨b, off + k, none⟩ = some (.string t) := by
          obtain ⟨⟨A', cap', hv, hf⟩, _⟩ := HG1.out
          obtain ⟨b, off, hA, hlb, hc⟩ := hf (by omega)
          obtain ⟨rfl, rfl⟩ : A = A' ∧ cap = cap' := by simpa using hv
          refine ⟨b, off, hA, (HX.out.cell hlb).trans ((hc k hlt).trans ?_)⟩
          rw [List.getD_eq_getElem?_getD, ht]; rfl
        have hts : t.size ≤ 1000000 := HSZ.out t (List.mem_of_getElem? ht)
        have HTS := Lib.hid hts
        have HTT := Lib.hid ht
        have t1 : decide ((k : Int) < (texts.length : Int)) = true := by simpa using hlt
        have t2 : (k : Int) < (texts.length : Int) := by omega
        have hw : IntKind.i64.wrap ((k : Int) + 1) = (k : Int) + 1 := IntWalk.i64_in _ (by have := HNUM.out.2.1; omega)
        have C2 := refparse_full t wr (by omega)
        clear ht hts
        cases hp : parseF t with
        | error c =>
          rw [hp] at C2
          simp only [parseV] at C2
          have hc0 : c ≠ 0 := parseF_err hp
          have hc1 : (c == 0) = false := by simpa using hc0
          have hc2 : (c != 0) = true := by simpa using hc0
          have HPP := Lib.hid hp
          have HC2 := Lib.hid C2
          clear hp C2 hc0
          go_wp2_with fail
          refine HC2.out.mono ?_
          rintro e w2 ⟨rfl, hb2⟩
          go_wp2_with fail
          have hbb : Below w1.heap.size w1 (w2.alloc (.cells #[.bool false, .bool false, .bool false, .string ⟨#[]⟩, .string ⟨#[]⟩] 138)) := (HX.out.trans (hb2.mono HX.out.size)).alloc (by have := HX.out.size; have := hb2.size; omega) _
          have hres : RES = (c, S) := by
            rw [← HRES.out]
            unfold RL.set
            rw [if_pos HE.out]
            have e : parseAll texts = .error c := by
              rw [split_at HTT.out]
              exact parseAll_err HP.out HPP.out
            rw [e]
          go_ret
          exact ⟨by rw [hres]; rfl, by rw [hres]; exact HV.out.1.below (HB1.out.trans (hbb.mono HB1.out.size)), Upd.of_below (HB1.out.trans (hbb.mono HB1.out.size)) (Nat.le_refl _)⟩
        | ok r =>
          rw [hp] at C2
          simp only [parseV] at C2
          have hr1 := parseF_byle5 hp
          have hr2 := parseF_small hp
          have HPP := Lib.hid hp
          have HC2 := Lib.hid C2
          have HRS := Lib.hid (And.intro hr1 hr2)
          clear hp C2 hr1 hr2
          obtain ⟨i0, hi, hz0, hz1, hz2⟩ := info_parts ruleInfo
          go_wp2_with fail
          refine HC2.out.mono ?_
          rintro e w2 ⟨rfl, hb2⟩
          have hS2a := ((HS.out.1.below hb2 (fun k hk => (HS.out.1.lt k hk).2)).alloc (.cells #[.bool r.allow, .bool r.inn, .bool r.out, .string r.by_, .string r.value] 138)).alloc (.cells #[.bool r.allow, .bool r.inn, .bool r.out, .string r.by_, .string r.value] 138)
          have hS2b := ((HS.out.2.below hb2 (fun k hk => (HS.out.2.lt k hk).2)).alloc (.cells #[.bool r.allow, .bool r.inn, .bool r.out, .string r.by_, .string r.value] 138)).alloc (.cells #[.bool r.allow, .bool r.inn, .bool r.out, .string r.by_, .string r.value] 138)
          have hbb := ((HX.out.trans (hb2.mono HX.out.size)).alloc (by have := HX.out.size; have := hb2.size; omega) (.cells #[.bool r.allow, .bool r.inn, .bool r.out, .string r.by_, .string r.value] 138)).alloc (by have := HX.out.size; have := hb2.size; simp; omega) (.cells #[.bool r.allow, .bool r.inn, .bool r.out, .string r.by_, .string r.value] 138)
          have hbox : ((w2.alloc (.cells #[.bool r.allow, .bool r.inn, .bool r.out, .string r.by_, .string r.value] 138)).alloc (.cells #[.bool r.allow, .bool r.inn, .bool r.out, .string r.by_, .string r.value] 138)).heap[w2.heap.size]? = some (.cells #[.bool r.allow, .bool r.inn, .bool r.out, .string r.by_, .string r.value] 138) := blk_alloc (blk_new _ _) _
          have hlow : w1.heap.size ≤ w2.heap.size := Nat.le_trans HX.out.size hb2.size
          have HBB := Lib.hid (And.intro hbb (And.intro hS2b (And.intro hbox hlow)))
          have HS2 := hS2a
          clear hbb hS2b hbox hS2a
          go_wp2_with (at_builtin; refine wpList_append_seq _ rfl _ _ 107 rfl w1.heap.size 138 i0 (.agg #[.bool false, .bool false, .bool false, .string ⟨#[]⟩, .string ⟨#[]⟩]) 5 40 Tryz.underlying107 hi hz0 hz1 hz2 rfl _ k (flatR rs) rfl HS2 ⟨w2.heap.size + 1, 0, none⟩ 1 1 [.bool r.allow, .bool r.inn, .bool r.out, .string r.by_, .string r.value] rfl rfl ?c1 ?c2 (by decide) ?c3 ?c4 ?c5 ?_)
          case c1 => intro j u hu; match j, hu with | 0, hu => simpa [go_sem, Addr.add] using hu | 1, hu => simpa [go_sem, Addr.add] using hu | 2, hu => simpa [go_sem, Addr.add] using hu | 3, hu => simpa [go_sem, Addr.add] using hu | 4, hu => simpa [go_sem, Addr.add] using hu
          case c2 => intro u hu; simp at hu; rcases hu with rfl | rfl | rfl | rfl | rfl <;> rfl
          case c3 => have := HNUM.out.2.1; unfold maxLen; omega
          case c4 => have := HNUM.out.2.1; omega
          case c5 => have := HX.out.size; have := hb2.size; simp; omega
          intro v' w5 hseq' hgrow hat
          obtain ⟨P5, q5, rfl⟩ := hseq'.shape
          have hb5 := HBB.out.1.grown hgrow HBB.out.1.size (fun j hj => (HS2.lt j hj).1)
          have hS5b := HBB.out.2.1.grown_ty HS2 (by decide) hgrow
          have hbx5 : w5.heap[w2.heap.size]? = some (.cells #[.bool r.allow, .bool r.inn, .bool r.out, .string r.by_, .string r.value] 138) := by
            refine blk_grown HBB.out.2.2.1 hgrow (fun e => ?_)
            have := (HS.out.1.lt _ e.symm).2
            have := hb2.size
            omega
          have x0 : w5.cell? ⟨w2.heap.size, 0, none⟩ = some (.bool r.allow) := blk_cell hbx5 0
          have x1 : w5.cell? ⟨w2.heap.size, 1, none⟩ = some (.bool r.inn) := blk_cell hbx5 1
          have x2 : w5.cell? ⟨w2.heap.size, 2, none⟩ = some (.bool r.out) := blk_cell hbx5 2
          have x3 : w5.cell? ⟨w2.heap.size, 3, none⟩ = some (.string r.by_) := blk_cell hbx5 3
          have x4 : w5.cell? ⟨w2.heap.size, 4, none⟩ = some (.string r.value) := blk_cell hbx5 4
          have HS5 := Lib.hid (And.intro hseq' hS5b)
          have HB5 := Lib.hid hb5
          clear HS2 hseq' hgrow hat hb5 hi hz0 hz1 hz2 hS5b hbx5 HBB HS hlow
          have C3 := refwrite_any r (by have := HRS.out; omega) (by have := HRS.out; have := HTS.out; omega) w5
          have HC3 := Lib.hid C3
          clear C3
          go_wp2_with fail
          refine HC3.out.mono ?_
          rintro e w6 ⟨rfl, hb6⟩
          obtain ⟨i1, hi, hz0, hz1, hz2⟩ := info_parts strInfo
          have hS6a := (HS5.out.1.below hb6 (fun k hk => (HS5.out.1.lt k hk).2)).alloc (.cells #[.string (refWriteS r)] 9)
          have HS6 := (HS5.out.2.below hb6 (fun k hk => (HS5.out.2.lt k hk).2)).alloc (.cells #[.string (refWriteS r)] 9)
          have hb6' := (HB5.out.trans (hb6.mono HB5.out.size)).alloc (by have := HB5.out.size; have := hb6.size; omega) (.cells #[.string (refWriteS r)] 9)
          have HBB := Lib.hid (And.intro hb6' hS6a)
          clear hb6' hS6a hb6 HC3 x0 x1 x2 x3 x4
          go_wp2_with (at_builtin; refine wpList_append_seq _ rfl _ _ 32 rfl w1.heap.size 9 i1 (.string ⟨#[]⟩) 1 16 Tryz.underlying32 hi hz0 hz1 hz2 rfl _ k (flatS (rs.map refWriteS)) rfl HS6 ⟨w6.heap.size, 0, none⟩ 1 1 [.string (refWriteS r)] rfl rfl ?d1 ?d2 (by decide) ?d3 ?d4 ?d5 ?_)
          case d1 => intro j u hu; match j, hu with | 0, hu => simpa [go_sem, Addr.add] using hu
          case d2 => intro u hu; simp at hu; subst hu; rfl
          case d3 => have := HNUM.out.2.1; unfold maxLen; omega
          case d4 => have := HNUM.out.2.1; omega
          case d5 => have := HBB.out.1.size; simpa using this
          intro v7 w7 hseq7 hgrow7 hat7
          obtain ⟨P7, q7, rfl⟩ := hseq7.shape
          have hb7 := HBB.out.1.grown hgrow7 HBB.out.1.size (fun j hj => (HS6.lt j hj).1)
          have hS7a := HBB.out.2.grown_ty HS6 (by decide) hgrow7
          have HF := Lib.hid (And.intro hb7 (And.intro hS7a hseq7))
          clear hb7 hS7a hseq7 hgrow7 hat7 HS6 HBB hi hz0 hz1 hz2
          go_wp2_with fail
          go_roundg (texts.length - (k + 1))
          case measure => have := HK.out.2; omega
          case rel =>
            refine ⟨k + 1, rs ++ [r], by omega, rfl, by go_num, ?_, HF.out.1, ?_, ?_⟩
            · rw [take_snoc HTT.out]; exact parseAll_snoc_ok HP.out HPP.out
            · rw [flatR_append]; exact HF.out.2.1
            · rw [List.map_append]; simpa [flatS] using HF.out.2.2
      · have e : k = texts.length := by omega
        have hpall : parseAll texts = .ok rs := by
          have := HP.out
          rw [e, List.take_length] at this
          exact this
        subst e
        have t1 : decide ((texts.length : Int) < (texts.length : Int)) = false := by simp
        have C := at_any (H1.out.below HX.out) name HNUM.out.2.2.1
        obtain ⟨p, hp⟩ : ∃ p, S.pos name = p := ⟨_, rfl⟩
        obtain ⟨i, hi⟩ : ∃ i, S.is name = i := ⟨_, rfl⟩
        rw [hp, hi] at C
        have hres : RES = if S.rules < (texts.length : Int) ∨ (i = false ∧ S.most ≤ (S.rows.length : Int)) then (8, S) else (0, S.setRow name rs) := by
          rw [← HRES.out]
          unfold RL.set
          rw [if_pos HE.out, hpall, hi]
        have HRR := Lib.hid hres
        have HPI := Lib.hid (And.intro hp hi)
        have HC := Lib.hid C
        clear hpall HP HK hk hp hi C hres
        obtain ⟨vn, vt, vr, rows, hR, hav⟩ := HV.out.1
        have hx9 : (Value.slice A9 texts.length c9).ownBlock ≠ some x := fun e => by have := (HS.out.2.lt x e).1; have := HB1.out.size; have := HV.out.2; omega
        have HAV := Lib.hid (And.intro hav hx9)
        clear hav hx9
        obtain ⟨AN, cN, rfl⟩ := hR.names.shape
        obtain ⟨AT, cT, rfl⟩ := hR.texts.shape
        obtain ⟨AR, cR, rfl⟩ := hR.rules.shape
        have HR := Lib.hid hR
        clear hR
        go_wp2_with fail
        refine HC.out.mono ?_
        rintro e w2 ⟨rfl, hb2⟩
        have hbt : Below w.heap.size w w2 := (HB1.out.trans (HX.out.mono HB1.out.size)).trans (hb2.mono (Nat.le_trans HB1.out.size HX.out.size))
        have hR2 := HR.out.below hbt
        obtain ⟨y0, y1, y2, y3, y4, y5, _, _, z4, z5⟩ := cells6r hR2.cells
        have hlenR := HR.out.len
        have s8 := ((HS.out.1.below hb2 (fun k hk => (HS.out.1.lt k hk).2)).lower (B' := B) (Nat.le_trans HNUM.out.2.2.2 HB1.out.size))
        have s9 := ((HS.out.2.below hb2 (fun k hk => (HS.out.2.lt k hk).2)).lower (B' := B) (Nat.le_trans HNUM.out.2.2.2 HB1.out.size))
        have HL := Lib.hid hlenR
        have HZ := Lib.hid (And.intro hbt (And.intro hR2 (And.intro s8 s9)))
        have hrl2 : rs.length = texts.length := HRL.out
        have HRL2 := Lib.hid hrl2
        clear hbt hR2 s8 s9 hb2 HC HX HS H1 HG1 HB1 H hrl2 y2 hlenR
        by_cases hA : S.rules < (texts.length : Int)
        · have a1 : decide (S.rules < (texts.length : Int)) = true := by simpa using hA
          have hres : RES = (8, S) := by rw [HRR.out, if_pos (.inl hA)]
          have HRE := Lib.hid hres
          clear hA hres
          go_wp2_with fail
          go_quiet (fail)
          go_wp2_with fail
          go_ret
          exact ⟨by rw [HRE.out]; rfl, by rw [HRE.out]; exact ⟨_, _, _, _, HZ.out.2.1.below (below_drewNs _ _), HAV.out.1⟩, Upd.of_below (HZ.out.1.trans ((below_drewNs _ _).mono HZ.out.1.size)) (Nat.le_refl _)⟩
        · have a1 : decide (S.rules < (texts.length : Int)) = false := by simpa using hA
          cases i with
          | true =>
            have hres : RES = (0, S.setRow name rs) := by rw [HRR.out, if_neg (by simp; omega)]
            have HRE := Lib.hid hres
            clear hA hres
            obtain ⟨r0, g1, g2, _⟩ := Srt.isAt_split (show Srt.isAt Row.name S.rows name = true from HPI.out.2)
            rw [show Srt.pos Row.name S.rows name = p from HPI.out.1] at g1
            have hpl : p < rows.length := by
              have := (List.getElem?_eq_some_iff.1 g1).1
              have := HL.out
              omega
            obtain ⟨r, hr⟩ : ∃ r, rows[p]? = some r := ⟨_, List.getElem?_eq_getElem hpl⟩
            have hrn : r.row.name = name := by
              have := HR.out.get hr
              rw [g1] at this
              cases this
              exact g2
            obtain ⟨bT, oT, rfl, _, _, yT, zT⟩ := HZ.out.2.1.texts.one (j := p) (v := r.tv) (by simp [tvL, hr])
            obtain ⟨bR, oR, rfl, _, _, yR, zR⟩ := HZ.out.2.1.rules.one (j := p) (v := r.rv) (by simp [rvL, hr])
            obtain ⟨curT, hbT⟩ := HZ.out.2.1.texts.block bT rfl
            obtain ⟨curR, hbR⟩ := HZ.out.2.1.rules.block bR rfl
            have n1 : ¬ qb = bT := by intro e; have := HZ.out.2.1.cells; rw [e, hbT] at this; simp at this
            have n2 : ¬ qb = bR := by intro e; have := HZ.out.2.1.cells; rw [e, hbR] at this; simp at this
            have n3 : ¬ bT = bR := by intro e; rw [← e, hbT] at hbR; simp at hbR
            have q1 : bT < w2.heap.size := blk_lt hbT
            have q2 : bR < w2.heap.size := blk_lt hbR
            have t5 : (p : Int) < (rows.length : Int) := by omega
            have t6 : (0 : Int) ≤ (p : Int) := by omega
            have HRN := Lib.hid (And.intro hr hrn)
            clear g1 g2 hpl hr hrn hbT hbR
            go_wp2_with fail
            go_quiet (fail)
            go_wp2_with fail
            go_region
            go_wp2_with fail
            go_ret
            have hml : (rs.map refWriteS).length = texts.length := by rw [List.length_map]; exact HRL2.out
            have hW := (HZ.out.2.1.below (below_drewNs w2 (nq + 1))).write HRN.out.1 (texts := rs.map refWriteS) (rules := rs)
              (tv := .slice A9 texts.length c9) (rv := .slice A8 texts.length c8)
              (by have := HZ.out.2.2.2.kept (w' := w2.drewN (nq + 1)) (fun _ _ => rfl); rw [TxtAt, hml]; exact this)
              (by have := HZ.out.2.2.1.kept (w' := w2.drewN (nq + 1)) (fun _ _ => rfl); rw [RulAt, HRL2.out]; exact this)
            obtain ⟨curT, hbT⟩ := HR.out.texts.block bT rfl
            obtain ⟨curR, hbR⟩ := HR.out.rules.block bR rfl
            refine ⟨by rw [HRE.out]; rfl, ?_, ?_⟩
            · rw [HRE.out]
              have e : S.setRow name rs = { S with rows := S.rows.set p ⟨r.row.name, rs.map refWriteS, rs⟩ } := by
                unfold RL.setRow
                rw [Srt.put_set HPI.out.2, show Srt.pos Row.name S.rows name = p from HPI.out.1, HRN.out.2]
              rw [e]
              exact ⟨_, _, _, _, hW, HAV.out.1.1, fun r' hr' => by
                rcases List.mem_or_eq_of_mem_set hr' with hr' | rfl
                · exact HAV.out.1.2 r' hr'
                · exact HAV.out.2⟩
            · exact Upd.setCell (ks := Ks17 w B qb) (Upd.setCell (ks := Ks17 w B qb) (Upd.of_below (HZ.out.1.trans ((below_drewNs _ _).mono HZ.out.1.size)) (Nat.le_refl _)) (a := (⟨bT, oT + p, none⟩ : Addr)) (.inl (.inr ⟨(HR.out.texts.lt bT rfl).1, curT, .inl hbT⟩)) _) (a := (⟨bR, oR + p, none⟩ : Addr)) (.inl (.inr ⟨(HR.out.rules.lt bR rfl).1, curR, .inr hbR⟩)) _
          | false =>
            by_cases hM : S.most ≤ (S.rows.length : Int)
            · have hres : RES = (8, S) := by rw [HRR.out, if_pos (.inr ⟨rfl, hM⟩)]
              have a2 : decide (S.most ≤ (rows.length : Int)) = true := by rw [HL.out]; simpa using hM
              have HRE := Lib.hid hres
              clear hA hres hM
              go_wp2_with fail
              go_quiet (fail)
              go_wp2_with fail
              go_ret
              exact ⟨by rw [HRE.out]; rfl, by rw [HRE.out]; exact ⟨_, _, _, _, HZ.out.2.1.below (below_drewNs _ _), HAV.out.1⟩, Upd.of_below (HZ.out.1.trans ((below_drewNs _ _).mono HZ.out.1.size)) (Nat.le_refl _)⟩
            · have hres : RES = (0, S.setRow name rs) := by rw [HRR.out, if_neg (by simp; omega)]
              have a2 : decide (S.most ≤ (rows.length : Int)) = false := by rw [HL.out]; simpa using hM
              have HRE := Lib.hid hres
              clear hA hres hM
              have hne : (name.toList == []) = false := by
                have := HE.out
                unfold wordE at this
                cases hx : (name.toList == []) with
                | false => rfl
                | true =>
                  rw [hx] at this
                  simp only [Bool.true_or, if_true] at this
                  split at this <;> cases this
              have hS : S.setRow name rs = { S with rows := S.rows.take p ++ [⟨name, rs.map refWriteS, rs⟩] ++ S.rows.drop p } := by
                unfold RL.setRow Srt.put Srt.rest
                rw [show Srt.isAt Row.name S.rows name = false from HPI.out.2, show Srt.pos Row.name S.rows name = p from HPI.out.1]
                simp
              have hpl : p ≤ S.rows.length := by rw [← HPI.out.1]; exact Srt.pos_le _ _
              have hml : (rs.map refWriteS).length = texts.length := by rw [List.length_map]; exact HRL2.out
              have C := fun (W : World) (hW : Below w2.heap.size w2 W) => put_row (⟨_, _, _, _, HZ.out.2.1.below hW, HAV.out.1⟩ : RfAv W B qb S x) p p hpl hpl name (.slice A9 texts.length c9) (.slice A8 texts.length c8) (Nat.lt_of_lt_of_le HV.out.2 (Nat.le_trans HZ.out.1.size hW.size)) HAV.out.2 (rs.map refWriteS) rs
                (by rw [TxtAt, hml]; exact HZ.out.2.2.2.below hW (fun k hk => (HZ.out.2.2.2.lt k hk).2)) (by rw [RulAt, HRL2.out]; exact HZ.out.2.2.1.below hW (fun k hk => (HZ.out.2.2.1.lt k hk).2)) hne (S.setRow name rs) hS HNUM.out.2.2.1 (Nat.le_trans HNUM.out.2.2.2 (Nat.le_trans HZ.out.1.size hW.size))
              have HC := Lib.hid C
              clear hne hS hpl hml C
              go_wp2_with fail
              go_quiet (fail)
              go_wp2_with fail
              refine (HC.out _ (below_drewNs _ _)).mono ?_
              rintro e w3 ⟨rfl, hr3, hu3⟩
              have HF := Lib.hid (And.intro hr3 hu3)
              clear hr3 hu3
              go_wp2_with fail
              go_ret
              refine ⟨by rw [HRE.out]; rfl, by rw [HRE.out]; exact HF.out.1, ?_⟩
              have hu : Upd w2.heap.size (Ks17 w B qb) w2 w3 := ⟨HF.out.2.os, HF.out.2.tape, HF.out.2.output, HF.out.2.size, fun k hk hn => HF.out.2.block k hk (fun e => hn (.inl e))⟩
              exact Upd.trans (Upd.of_below HZ.out.1 (Nat.le_refl _)) hu HZ.out.1.size
  · have hc1 : (E == 0) = false := by simpa using h0
    have hc2 : (E != 0) = true := by simpa using h0
    have hres : RES = (E, S) := by
      rw [← HRES.out]
      unfold RL.set
      rw [if_neg (by rw [HE.out]; exact h0), HE.out]
    have HRE := Lib.hid hres
    clear h0 hres
    go_enter Tryz.func37, Tryz.ntmps37
    go_wp2_with fail
    refine HC1.out.mono ?_
    rintro e w1 ⟨rfl, hb1⟩
    have HB1 := Lib.hid hb1
    clear hb1
    go_wp2_with fail
    go_ret
    exact ⟨by rw [HRE.out]; rfl, by rw [HRE.out]; exact HV.out.1.below HB1.out, Upd.of_below HB1.out (Nat.le_refl _)⟩

theorem rset17_any {w : World} {B qb : Nat} {S : RL} (h : RfAt w B qb S) (name : ByteArray) (hnm : name.size ≤ 1000000) (v : Value) (texts : List ByteArray) (hg : Strs w v texts)
    (hlen : texts.length ≤ 1000000) (hsz : ∀ t ∈ texts, t.size ≤ 1000000) (hn : S.rows.length ≤ 1000000) (hBw : B ≤ w.heap.size) :
    Calls Tryz.prog 37 #[.pointer (some ⟨qb, 0, none⟩), .string name, v] w fun e w' => e = .returned (.int .i64 (S.set name texts).1) ∧ RfAt w' B qb (S.set name texts).2 ∧ Upd w.heap.size (Ks17 w B qb) w w' := by
  obtain ⟨vn, vt, vr, rows, hR⟩ := id h
  refine (rset17_av (h.av hR.cells (fun cs e => by simp at e)) (blk_lt hR.cells) name hnm v texts hg hlen hsz hn hBw).mono ?_
  rintro e w' ⟨h1, h2, h3⟩
  exact ⟨h1, h2.at, h3⟩

end Go.Proofs.YthbjcihdlhkboaaGreatDoor
