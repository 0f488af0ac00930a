/- RosterPair's round, one of its four ways (a0). -/
import Derived.Test.YthbjcihdlhkboaaDoorPwc
import Derived.Test.YthbjcihdlhkboaaDoorStep2
import Derived.Outline
namespace Go.Proofs.YthbjcihdlhkboaaDoor
set_option linter.unusedSimpArgs false
set_option linter.unusedVariables false
open Go.RowKit Go.Maps Go.Shelf Go.Lib

set_option maxRecDepth 100000 in
set_option maxHeartbeats 16000000 in
theorem pw_a0 {K K1 K2 K3 : Act → World → Prop} {P : Ending → World → Prop} {J : Nat → Act → World → Prop} {gk : Nat} {w wc : World} {items asks : Int} {A : Option Addr} {L cap k rb0 mb0 rb1 mb1 sb : Nat} {R S : RS} {q0 q1 : List (Int × Int)} {A0 A1 : Option Addr} {c0 c1 : Nat} {ek dk : Int} {u6 u13 u14 u15 u16 u17 u18 u19 u20 u28 u29 u30 u31 u32 u33 u34 u35 u36 u37 u38 u39 u40 u41 u42 u43 u44 u45 u46 u47 u48 u49 u50 u51 u52 u53 u54 u55 u56 u57 u58 u59 u60 u61 u62 u63 u64 u65 u66 u67 u68 u69 u70 u71 u72 u73 u74 u75 u76 u77 u78 u79 u80 u81 u82 u83 u84 u85 u86 u87 u88 u89 u90 u91 u92 u93 u94 u95 u96 u97 u98 u99 u100 u101 u102 u103 u104 u105 u106 u107 u108 u109 u110 u111 u112 u113 u114 u115 u116 u117 u118 u119 u120 u121 u122 u123 u124 u125 u126 u127 u128 u129 u130 u131 u132 u133 u134 u135 u136 u137 u138 u139 u140 u141 u142 u143 u144 u145 u146 u147 u148 u149 u150 u151 u152 u153 u154 u155 u156 u157 u158 u159 u160 u161 u162 u163 u164 u165 u166 u167 u168 u169 u170 u171 u172 u11 u12 : Value}
    (hK : PwRest K K1 K2 K3 (bodyPost Tryd.prog Tryd.f3 P)) (hK1 : PwNext K1 K2 K3 (bodyPost Tryd.prog Tryd.f3 P)) (hJ : PwEnd J w items asks A L cap u6 u11 u12 u13 u14 u15 u16 u17 u18 u19 u20 u52 u53 u54 u55 u56 u57 u58 u59 u60 u61 u62 u63 u64 u65 u66 u67 u68 u69 u70 u71 u72 u73 u74 u75 u76 u77 u78 u79 u80 u81 u82 u83 u84 u85 u86 u87 u88 u89 u90 u91 u92 u93 u94 u95 u96 u97 u98 u99 u100 u101 u102 u103 u104 u105 u106 u107 u108 u109 u110 u111 u112 u113 u114 u115 u116 u117 u118 u119 u120 u121 u122 u123 u124 u125 u126 u127 u128 u129 u130 u131 u132 u133 u134 u135 u136 u137 u138 u139 u140 u141 u142 u143 u144 u145 u146 u147 u148 u149 u150 u151 u152 u153 u154 u155 u156 u157 u158 u159 u160 u161 u162 u163 u164 u165 u166 u167 u168 u169 u170 u171 u172 u28 u29 u30 u31 u32 u33 u34 u35 u36 u37 u38 u39 u40 u41 u42 u43 u44 u45 u46 u47 u48 u49 u50 u51) (hH : ∀ (a' : Act) (w' : World), Handed J gk a' w' → K2 a' w')
    (hL : L ≤ 9223372036854775807) (HT : Hid (Tabs w)) (hk1 : k ≤ 901) (hki : (0 : Int) ≤ (k : Int)) (hl0 : q0.length ≤ 901) (hl1 : q1.length ≤ 901)
    (HG : Hid ((gk = 6 * (min L 150 - k) + 2 * (wt q0 + wt q1) + (if (if k % 2 = 0 then q0 else q1) = [] then 1 else 0)) ∧ k + gk ≤ 901)) (HI : Hid (PairInv R S textbob nameAnn q0 q1))
    (HV : Hid (R.next ≤ (k : Int) ∧ S.next ≤ (k : Int) ∧ 0 ≤ R.ver ∧ R.ver ≤ (k : Int) ∧ 0 ≤ S.ver ∧ S.ver ≤ (k : Int))) (HAD : Hid (1 ≤ dk → k < L ∧ k < 150))
    (HM : Hid (PMem w wc w.heap.size w.heap.size rb0 mb0 rb1 mb1 (.slice A0 q0.length c0) (.slice A1 q1.length c1) R S q0 q1 ∧ wc.heap[sb]? = some (.cells #[.int .i64 ek, .int .i64 dk] 33)))
    (HT2 : Hid (Tabs wc)) (s0 : wc.cell? ⟨sb, 0, none⟩ = some (.int .i64 ek)) (s1 : wc.cell? ⟨sb, 1, none⟩ = some (.int .i64 dk)) (zs : sb < wc.heap.size) (z0 : w.heap.size < wc.heap.size) (z1 : w.heap.size + 1 < wc.heap.size) (z2 : w.heap.size + 2 < wc.heap.size)
    (hE : bits .and .i64 ek 1 = 0) (HNO : Hid (¬ (k < L ∧ k < 150) → k % 2 = 0 ∧ 0 < q0.length + q1.length)) (HEE : Hid (ek % 2 = 0)) (hD : 1 ≤ dk) (hkk : k < L ∧ k < 150) :
    K (PwAt w items asks A L cap k sb u6 u13 u14 u15 u16 u17 u18 u19 u20 u28 u29 u30 u31 u32 u33 u34 u35 u36 u37 u38 u39 u40 u41 u42 u43 u44 u45 u46 u47 u48 u49 u50 u51 u52 u53 u54 u55 u56 u57 u58 u59 u60 u61 u62 u63 u64 u65 u66 u67 u68 u69 u70 u71 u72 u73 u74 u75 u76 u77 u78 u79 u80 u81 u82 u83 u84 u85 u86 u87 u88 u89 u90 u91 u92 u93 u94 u95 u96 u97 u98 u99 u100 u101 u102 u103 u104 u105 u106 u107 u108 u109 u110 u111 u112 u113 u114 u115 u116 u117 u118 u119 u120 u121 u122 u123 u124 u125 u126 u127 u128 u129 u130 u131 u132 u133 u134 u135 u136 u137 u138 u139 u140 u141 u142 u143 u144 u145 u146 u147 u148 u149 u150 u151 u152 u153 u154 u155 u156 u157 u158 u159 u160 u161 u162 u163 u164 u165 u166 u167 u168 u169 u170 u171 u172) wc := by
  unfold PwRest at hK
  unfold PwNext at hK1
  unfold PwEnd at hJ
  unfold PwAt
  have t3 : decide (1 ≤ dk) = true := by simpa using hD
  have HDD := Lib.hid hD
  clear hD
  have b0 : wc.cell? ⟨w.heap.size, 0, none⟩ = some (.pointer (some ⟨rb0, 0, none⟩)) := blk_cell HM.out.1.rs 0
  have b1 : wc.cell? ⟨w.heap.size + 1, 1, none⟩ = some (.string textbob) := blk_cell HM.out.1.ns 1
  obtain ⟨D, hro⟩ := HM.out.1.r0
  have hn1 := HI.out.oneR.len
  have hpos := HI.out.inv.da.pos
  obtain ⟨hnR, hnS, hvR0, hvR, hvS0, hvS⟩ := HV.out
  have C := ract_any hro.drew HT2.out.drew textbob dk (by decide) (by omega) (show w.heap.size ≤ wc.heap.size from HM.out.1.below.size) (by omega) (by omega) (by omega) (by omega)
  have hpa := pair_act HI.out bob_local.1 bob_local.2 dk
  obtain ⟨X, hX⟩ : ∃ X, R.actAll textbob dk = X := ⟨_, rfl⟩
  rw [hX] at C hpa
  obtain ⟨R', m, n', ch, ec⟩ := X
  simp only at C hpa
  have HC := Lib.hid C
  have HP := Lib.hid hpa
  clear C hpa hX hro hn1 hpos hnR hnS hvR0 hvR hvS0 hvS
  have hw0 : IntKind.i64.wrap 1 = 1 := by decide
  go_wp2_with fail
  go_region_held3? (fun w' => w'.cell? ⟨w.heap.size, 0, none⟩ = some (.pointer (some ⟨rb0, 0, none⟩)) ∧ w'.cell? ⟨w.heap.size + 1, 1, none⟩ = some (.string textbob) ∧ w'.cell? ⟨sb, 1, none⟩ = some (.int .i64 dk))
    (first
      | exact ⟨b0, b1, s1⟩
      | exact ⟨hq0, hq1, hq2⟩)
    (first
      | (go_at_call 10; refine HC.out.mono ?_; rintro e w' ⟨rfl, hro', hu'⟩; have hM' := HM.out.1.op0 (AnyRo.undrew hro') (Upd.undrew hu'); have hq0 : w'.cell? ⟨w.heap.size, 0, none⟩ = some (.pointer (some ⟨rb0, 0, none⟩)) := blk_cell hM'.rs 0; have hq1 : w'.cell? ⟨w.heap.size + 1, 1, none⟩ = some (.string textbob) := blk_cell hM'.ns 1; have hq2 : w'.cell? ⟨sb, 1, none⟩ = some (.int .i64 dk) := blk_cell (sbox_upd0 HM.out hu') 1))
  have HN := Lib.hid hM'
  have HT3 := Lib.hid (HT.out.later hM'.below)
  clear HM HT2 HC hM' hro' hu' hq0 hq1 hq2 b0 b1 s1 s0
  by_cases hc : ec = 0 ∧ m ≠ 0
  · obtain ⟨hc1, hc2⟩ := hc
    subst hc1
    have t5 : (m != 0) = true := by simpa using hc2
    have hHP := HP.out.1 ⟨rfl, hc2⟩
    have HF1 := Lib.hid hHP
    have HBD := Lib.hid HP.out.2.2
    clear hc2 hHP HP
    have x1 : w'.cell? ⟨w.heap.size + 2, 1, none⟩ = some (.slice A1 q1.length c1) := blk_cell HN.out.ws 1
    have x2 : w'.frozen? ⟨w.heap.size + 2, 1, none⟩ = false := blk_frozen HN.out.ws 1
    obtain ⟨i0, hi, hz0, hz1, hz2⟩ := info_parts letterInfo
    have hql : q1.length ≤ 901 := by have := len_le_wt q1; have := HG.out.1; omega
    go_wp2_with (at_builtin; refine wpList_append_seq _ rfl _ _ 26 rfl (w.heap.size) 38 i0 (.agg #[.int .i64 0, .int .u64 0]) 2 16 Tryd.underlying26 hi hz0 hz1 hz2 rfl _ q1.length (flatL q1) rfl (HN.out.alloc _).s1 ⟨w'.heap.size, 0, none⟩ 1 1 [.int .i64 m, .int .u64 n'] rfl rfl ?c1 ?c2 (by decide) ?c3 ?c4 ?c5 ?_)
    case c1 => intro j u hu; match j, hu with | 0, hu => simpa [go_sem, Addr.add] using hu | 1, hu => simpa [go_sem, Addr.add] using hu
    case c2 => intro u hu; simp at hu; rcases hu with rfl | rfl <;> rfl
    case c3 => unfold maxLen; omega
    case c4 => omega
    case c5 => have := HN.out.below.size; simp; omega
    intro v w1 hseq hgrow hat
    obtain ⟨A2, c2, rfl⟩ := hseq.shape
    have hpre := HN.out.alloc (.cells #[.int .i64 m, .int .u64 n'] 38)
    have bw1 := blk_grown hpre.ws hgrow (Ne.symm hpre.ws_ne.2)
    have x1 : w1.cell? ⟨w.heap.size + 2, 1, none⟩ = some (.slice A1 q1.length c1) := blk_cell bw1 1
    have x2 : w1.frozen? ⟨w.heap.size + 2, 1, none⟩ = false := blk_frozen bw1 1
    have HF := Lib.hid (And.intro (hpre.push1 hgrow hseq (by simpa using hat)) HF1.out)
    clear hpre bw1 hseq hgrow hat HN HF1
    go_wp2_with fail
    have hgk := HG.out
    have hbd := HBD.out
    have hvv := HV.out
    obtain ⟨g', hg'⟩ : ∃ g', g' = 6 * (min L 150 - (k + 1)) + 2 * (wt q0 + wt (q1 ++ [(m, n')])) + (if (if (k + 1) % 2 = 0 then q0 else q1 ++ [(m, n')]) = [] then 1 else 0) := ⟨_, rfl⟩
    have hw2 := wt1_pos (m, n')
    have hlt : g' < gk := by rw [hgk.1, hg', wt_snoc]; split <;> split <;> omega
    go_roundg g'
    case measure => exact hlt
    case rel => exact ⟨k + 1, rb0, mb0, rb1, mb1, _, _, R', S, q0, q1 ++ [(m, n')], by go_num, HF.out.1, HF.out.2, ⟨hg', by omega⟩, by omega⟩
  · have hHP := HP.out.2.1 hc
    have HF := Lib.hid (And.intro HN.out hHP)
    have HBD := Lib.hid HP.out.2.2
    have hsplit : (ec == 0) = false ∨ (ec = 0 ∧ (m != 0) = false) := by
      by_cases h : ec = 0
      · right
        exact ⟨h, by simpa using fun h2 => hc ⟨h, h2⟩⟩
      · left; simpa using h
    clear hc hHP HP HN
    rcases hsplit with t5 | ⟨rfl, t5⟩
    all_goals
      go_wp2_with fail
      have hgk := HG.out
      have hbd := HBD.out
      have hvv := HV.out
      obtain ⟨g', hg'⟩ : ∃ g', g' = 6 * (min L 150 - (k + 1)) + 2 * (wt q0 + wt q1) + (if (if (k + 1) % 2 = 0 then q0 else q1) = [] then 1 else 0) := ⟨_, rfl⟩
      have hlt : g' < gk := by rw [hgk.1, hg']; split <;> split <;> omega
      go_roundg g'
      case measure => exact hlt
      case rel => exact ⟨k + 1, rb0, mb0, rb1, mb1, _, _, R', S, q0, q1, by go_num, HF.out.1, HF.out.2, ⟨hg', by omega⟩, by omega⟩
end Go.Proofs.YthbjcihdlhkboaaDoor
