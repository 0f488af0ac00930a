/- RosterPair's round, one of its four ways (h1). -/
import Derived.Test.YthbjcihdlhkboaaDoorPwc
import Derived.Test.YthbjcihdlhkboaaDoorStep2
import Derived.Outline
namespace Go.Proofs.YthbjcihdlhkboaaDoor
set_option linter.unusedSimpArgs false
set_option linter.unusedVariables false
open Go.RowKit Go.Maps Go.Shelf Go.Lib

set_option maxRecDepth 100000 in
set_option maxHeartbeats 16000000 in
theorem pw_h1 {K K1 K2 K3 : Act → World → Prop} {P : Ending → World → Prop} {J : Nat → Act → World → Prop} {gk : Nat} {w wc : World} {items asks : Int} {A : Option Addr} {L cap k rb0 mb0 rb1 mb1 sb : Nat} {R S : RS} {q0 q1 : List (Int × Int)} {A0 A1 : Option Addr} {c0 c1 : Nat} {ek dk : Int} {u6 u13 u14 u15 u16 u17 u18 u19 u20 u28 u29 u30 u31 u32 u33 u34 u35 u36 u37 u38 u39 u40 u41 u42 u43 u44 u45 u46 u47 u48 u49 u50 u51 u52 u53 u54 u55 u56 u57 u58 u59 u60 u61 u62 u63 u64 u65 u66 u67 u68 u69 u70 u71 u72 u73 u74 u75 u76 u77 u78 u79 u80 u81 u82 u83 u84 u85 u86 u87 u88 u89 u90 u91 u92 u93 u94 u95 u96 u97 u98 u99 u100 u101 u102 u103 u104 u105 u106 u107 u108 u109 u110 u111 u112 u113 u114 u115 u116 u117 u118 u119 u120 u121 u122 u123 u124 u125 u126 u127 u128 u129 u130 u131 u132 u133 u134 u135 u136 u137 u138 u139 u140 u141 u142 u143 u144 u145 u146 u147 u148 u149 u150 u151 u152 u153 u154 u155 u156 u157 u158 u159 u160 u161 u162 u163 u164 u165 u166 u167 u168 u169 u170 u171 u172 u11 u12 : Value}
    (hK : PwRest K K1 K2 K3 (bodyPost Tryd.prog Tryd.f3 P)) (hK1 : PwNext K1 K2 K3 (bodyPost Tryd.prog Tryd.f3 P)) (hJ : PwEnd J w items asks A L cap u6 u11 u12 u13 u14 u15 u16 u17 u18 u19 u20 u52 u53 u54 u55 u56 u57 u58 u59 u60 u61 u62 u63 u64 u65 u66 u67 u68 u69 u70 u71 u72 u73 u74 u75 u76 u77 u78 u79 u80 u81 u82 u83 u84 u85 u86 u87 u88 u89 u90 u91 u92 u93 u94 u95 u96 u97 u98 u99 u100 u101 u102 u103 u104 u105 u106 u107 u108 u109 u110 u111 u112 u113 u114 u115 u116 u117 u118 u119 u120 u121 u122 u123 u124 u125 u126 u127 u128 u129 u130 u131 u132 u133 u134 u135 u136 u137 u138 u139 u140 u141 u142 u143 u144 u145 u146 u147 u148 u149 u150 u151 u152 u153 u154 u155 u156 u157 u158 u159 u160 u161 u162 u163 u164 u165 u166 u167 u168 u169 u170 u171 u172 u28 u29 u30 u31 u32 u33 u34 u35 u36 u37 u38 u39 u40 u41 u42 u43 u44 u45 u46 u47 u48 u49 u50 u51) (hH : ∀ (a' : Act) (w' : World), Handed J gk a' w' → K2 a' w')
    (hL : L ≤ 9223372036854775807) (HT : Hid (Tabs w)) (hk1 : k ≤ 901) (hki : (0 : Int) ≤ (k : Int)) (hl0 : q0.length ≤ 901) (hl1 : q1.length ≤ 901)
    (HG : Hid ((gk = 6 * (min L 150 - k) + 2 * (wt q0 + wt q1) + (if (if k % 2 = 0 then q0 else q1) = [] then 1 else 0)) ∧ k + gk ≤ 901)) (HI : Hid (PairInv R S textbob nameAnn q0 q1))
    (HV : Hid (R.next ≤ (k : Int) ∧ S.next ≤ (k : Int) ∧ 0 ≤ R.ver ∧ R.ver ≤ (k : Int) ∧ 0 ≤ S.ver ∧ S.ver ≤ (k : Int))) (HAD : Hid (1 ≤ dk → k < L ∧ k < 150))
    (HM : Hid (PMem w wc w.heap.size w.heap.size rb0 mb0 rb1 mb1 (.slice A0 q0.length c0) (.slice A1 q1.length c1) R S q0 q1 ∧ wc.heap[sb]? = some (.cells #[.int .i64 ek, .int .i64 dk] 33)))
    (HT2 : Hid (Tabs wc)) (s0 : wc.cell? ⟨sb, 0, none⟩ = some (.int .i64 ek)) (s1 : wc.cell? ⟨sb, 1, none⟩ = some (.int .i64 dk)) (zs : sb < wc.heap.size) (z0 : w.heap.size < wc.heap.size) (z1 : w.heap.size + 1 < wc.heap.size) (z2 : w.heap.size + 2 < wc.heap.size)
    (hE : bits .and .i64 ek 1 = 1) (HNO : Hid (¬ (k < L ∧ k < 150) → k % 2 = 1 ∧ 0 < q0.length + q1.length)) (HEE : Hid (ek % 2 = 1)) (t3 : decide (1 ≤ dk) = false) :
    K (PwAt w items asks A L cap k sb u6 u13 u14 u15 u16 u17 u18 u19 u20 u28 u29 u30 u31 u32 u33 u34 u35 u36 u37 u38 u39 u40 u41 u42 u43 u44 u45 u46 u47 u48 u49 u50 u51 u52 u53 u54 u55 u56 u57 u58 u59 u60 u61 u62 u63 u64 u65 u66 u67 u68 u69 u70 u71 u72 u73 u74 u75 u76 u77 u78 u79 u80 u81 u82 u83 u84 u85 u86 u87 u88 u89 u90 u91 u92 u93 u94 u95 u96 u97 u98 u99 u100 u101 u102 u103 u104 u105 u106 u107 u108 u109 u110 u111 u112 u113 u114 u115 u116 u117 u118 u119 u120 u121 u122 u123 u124 u125 u126 u127 u128 u129 u130 u131 u132 u133 u134 u135 u136 u137 u138 u139 u140 u141 u142 u143 u144 u145 u146 u147 u148 u149 u150 u151 u152 u153 u154 u155 u156 u157 u158 u159 u160 u161 u162 u163 u164 u165 u166 u167 u168 u169 u170 u171 u172) wc := by
  unfold PwRest at hK
  unfold PwNext at hK1
  unfold PwEnd at hJ
  unfold PwAt
  by_cases hq : q1 = []
  · have ql : q1.length = 0 := by rw [hq]; rfl
    have t5 : decide (0 < q1.length) = false := by simp [ql]
    have t6 : decide ((0 : Int) < (q1.length : Int)) = false := by simp [ql]
    have y : wc.cell? ⟨w.heap.size + 2, 1, none⟩ = some (.slice A1 q1.length c1) := blk_cell HM.out.1.ws 1
    have HQ := Lib.hid (And.intro hq ql)
    clear hq ql
    go_wp2_with fail
    have hgk := HG.out
    have hvv := HV.out
    obtain ⟨g', hg'⟩ : ∃ g', g' = 6 * (min L 150 - (k + 1)) + 2 * (wt q0 + wt q1) + (if (if (k + 1) % 2 = 0 then q0 else q1) = [] then 1 else 0) := ⟨_, rfl⟩
    have hlt : g' < gk := by
      rw [hgk.1, hg']
      by_cases hact : k < L ∧ k < 150
      · split <;> split <;> omega
      · obtain ⟨hk2, htot⟩ := HNO.out hact
        have hq0 := HQ.out.1
        have hql := HQ.out.2
        have e1 : (if k % 2 = 0 then q0 else q1) = [] := by rw [if_neg (by omega)]; exact hq0
        have e2 : (if (k + 1) % 2 = 0 then q0 else q1) ≠ [] := by rw [if_pos (by omega)]; intro e; rw [e] at htot; simp [hql] at htot
        rw [if_pos e1, if_neg e2]
        omega
    go_roundg g'
    case measure => exact hlt
    case rel => exact ⟨k + 1, rb0, mb0, rb1, mb1, _, _, R, S, q0, q1, by go_num, HM.out.1, HI.out, ⟨hg', by omega⟩, by omega⟩
  · obtain ⟨l, q', rfl⟩ := List.exists_cons_of_ne_nil hq
    clear hq
    obtain ⟨wp, rfl⟩ : ∃ wp : World, wp = wc := ⟨_, rfl⟩
    obtain ⟨gq, oq, cq, hv, hgb, hgl, hcc⟩ := HM.out.1.s1.form (by simp)
    obtain ⟨rfl, rfl⟩ : A1 = some ⟨gq, oq, none⟩ ∧ c1 = cq := by simp at hv; exact hv
    clear hv
    have y : wp.cell? ⟨w.heap.size + 2, 1, none⟩ = some (.slice (some ⟨gq, oq, none⟩) (q'.length + 1) c1) := blk_cell HM.out.1.ws 1
    have yf : wp.frozen? ⟨w.heap.size + 2, 1, none⟩ = false := blk_frozen HM.out.1.ws 1
    have y1 : wp.cell? ⟨gq, oq, none⟩ = some (.int .i64 l.1) := (HM.out.1.s1.cell 0 (by simp)).trans rfl
    have y2 : wp.cell? ⟨gq, oq + 1, none⟩ = some (.int .u64 l.2) := (HM.out.1.s1.cell 1 (by simp; omega)).trans rfl
    have t5 : decide (0 < q'.length + 1) = true := by simp
    have t6 : (0 : Int) < (q'.length : Int) + 1 := by omega
    have hcq : q'.length + 1 ≤ c1 := by simpa using hcc
    obtain ⟨o2, ho2⟩ : ∃ o2, o2 = if 1 = c1 then oq else oq + 1 * 2 := ⟨_, rfl⟩
    have hsl : ∀ w, (Instr.slice 26 (.slice (some ⟨gq, oq, none⟩) (q'.length + 1) c1) (some (.int .i64 1)) none none).run Tryd.prog w = .ok (.slice (some ⟨gq, o2, none⟩) q'.length (c1 - 1)) w := fun w => cut_letter gq oq q'.length c1 o2 ho2 w
    have HO := Lib.hid ho2
    clear ho2 hcc
    go_upto_region 23 with fail
    go_cut [141] (fun s141 wx => PMem w wx w.heap.size w.heap.size rb0 mb0 rb1 mb1 (.slice A0 q0.length c0) (.slice (some ⟨gq, o2, none⟩) q'.length (c1 - 1)) R S q0 q' ∧ wx.heap[wp.heap.size]? = some (.cells #[.int .i64 l.1, .int .u64 l.2] 38))
    case first =>
      go_wp2_with fail
      go_meet
      exact ⟨(HM.out.1.pop1 HO.out).alloc _, blk_new' _ (by simp)⟩
    case rest =>
      obtain ⟨hpm, hlb⟩ := hcut
      clear y yf y1 y2 t5 t6 hcq hsl hgb hgl s0 s1 zs HM HT2 z0 z1 z2
      generalize wp.heap.size = bl at *
      have HT2 := Lib.hid (HT.out.later hpm.below)
      have b0 : wc.cell? ⟨w.heap.size, 1, none⟩ = some (.pointer (some ⟨rb1, 0, none⟩)) := blk_cell hpm.rs 1
      have b1 : wc.cell? ⟨w.heap.size + 1, 0, none⟩ = some (.string nameAnn) := blk_cell hpm.ns 0
      have b2 : wc.cell? ⟨bl, 0, none⟩ = some (.int .i64 l.1) := blk_cell hlb 0
      have b3 : wc.cell? ⟨bl, 1, none⟩ = some (.int .u64 l.2) := blk_cell hlb 1
      have C1 := fun (W : World) (hm : PMem w W w.heap.size w.heap.size rb0 mb0 rb1 mb1 (.slice A0 q0.length c0) (.slice (some ⟨gq, o2, none⟩) q'.length (c1 - 1)) R S q0 q') => rhear_any (Classical.choose_spec hm.r1) (HT.out.later hm.below) nameAnn l.1 l.2 (by decide) (by have := HI.out.swap.oneR.len; omega) hm.below.size (by have := HV.out; omega) (by have := HV.out; omega)
      have hph := pair_hear HI.out.swap ann_local.1 ann_local.2
      have hdn := hear_deny_ask (R := S) (c := nameAnn) (k := l.1) (n := l.2)
      obtain ⟨X, hX⟩ : ∃ X, S.hearAll nameAnn l.1 l.2 = X := ⟨_, rfl⟩
      rw [hX] at C1 hph hdn
      obtain ⟨S', t, dn, ch, ec⟩ := X
      simp only at C1 hph hdn
      obtain ⟨hec, hph⟩ := hph
      subst hec
      have HC := Lib.hid C1
      have HP := Lib.hid hph
      have HDN := Lib.hid hdn
      have HM := Lib.hid hpm
      have HLB := Lib.hid hlb
      have zl := blk_lt hlb
      have zr := blk_lt hpm.rs
      have zn := blk_lt hpm.ns
      have hw0 : IntKind.i64.wrap 0 = 0 := by decide
      clear C1 hph hdn hX hpm hlb
      go_wp2_with fail
      go_cut [19, 20] (fun s19 s20 wx => ∃ bh, s19 = .pointer (some ⟨bh, 0, none⟩) ∧ s20 = .int .i64 0 ∧ PMem w wx w.heap.size w.heap.size rb0 mb0 rb1 mb1 (.slice A0 q0.length c0) (.slice (some ⟨gq, o2, none⟩) q'.length (c1 - 1)) R S' q0 q' ∧ wx.heap[bh]? = some (.cells #[.int .i64 t, .bool dn, .bool ch] 40) ∧ wx.heap[bl]? = some (.cells #[.int .i64 l.1, .int .u64 l.2] 38))
      case first =>
        refine Reg.wp_region_puts (A := [[], [0], [1, 0], [], [3], [4, 3], [5, 4, 3], [], [7], [], [9], [2, 1, 0, 6, 5, 4, 3, 8, 7, 10, 9], [11, 2, 1, 0, 6, 5, 4, 3, 8, 7, 10, 9], [12, 11, 2, 1, 0, 6, 5, 4, 3, 8, 7, 10, 9], [12, 11, 2, 1, 0, 6, 5, 4, 3, 8, 7, 10, 9], [], [15, 13, 12, 11, 2, 1, 0, 6, 5, 4, 3, 8, 7, 10, 9], [14, 12, 11, 2, 1, 0, 6, 5, 4, 3, 8, 7, 10, 9, 16, 15, 13]]) (effs := [11, 15, 16]) (N := 219)
          (val := fun i r => match i with | 0 => .int .i64 1 | 1 => .pointer (some ⟨w.heap.size, 1, none⟩) | 2 => .pointer (some ⟨rb1, 0, none⟩) | 3 => .int .i64 1 | 4 => .int .i64 0 | 5 => .pointer (some ⟨w.heap.size + 1, 0, none⟩) | 6 => .string nameAnn | 7 => .pointer (some ⟨bl, 0, none⟩) | 8 => .int .i64 l.1 | 9 => .pointer (some ⟨bl, 1, none⟩) | 10 => .int .u64 l.2 | 12 => (r 11) | 13 => (comp 0 (r 11)) | 14 => (comp 1 (r 11)) | 17 => (comp 1 (r 11)) | _ => undef)
          (Stage := fun rs wx => HearSt wc wx (fun wx => PMem w wx w.heap.size w.heap.size rb0 mb0 rb1 mb1 (.slice A0 q0.length c0) (.slice (some ⟨gq, o2, none⟩) q'.length (c1 - 1)) R S q0 q') (fun wx => PMem w wx w.heap.size w.heap.size rb0 mb0 rb1 mb1 (.slice A0 q0.length c0) (.slice (some ⟨gq, o2, none⟩) q'.length (c1 - 1)) R S' q0 q') bl l t dn ch rs)
          (fun rs => [(some 143, .int .i64 1), (some 144, .pointer (some ⟨w.heap.size, 1, none⟩)), (some 145, .pointer (some ⟨rb1, 0, none⟩)), (some 146, .int .i64 1), (some 147, .int .i64 0), (some 148, .pointer (some ⟨w.heap.size + 1, 0, none⟩)), (some 149, .string nameAnn), (some 150, .pointer (some ⟨bl, 0, none⟩)), (some 151, .int .i64 l.1), (some 152, .pointer (some ⟨bl, 1, none⟩)), (some 153, .int .u64 l.2), (some 154, (rs 11).getD undef), (some 142, ((rs 11).getD undef)), (some 155, (comp 0 ((rs 11).getD undef))), (some 156, (comp 1 ((rs 11).getD undef))), (some 19, (rs 15).getD undef), (none, (rs 16).getD undef), (some 20, (comp 1 ((rs 11).getD undef)))])
          (by kernel_rfl) (by kernel_rfl) rfl (fun _ => rfl) ?h0 ?hob ?hend
        case hob =>
          intro i hi
          match i, hi with
          | 0, _ => exact Reg.Ob.pure rfl rfl rfl (fun rs => .int .i64 1) (fun _ => rfl) (fun rs wx a hs hd hl hk => by
              have e13 : (a.tmps[13]?).getD undef = .int .i64 1 := hk 13 (by decide)
              go_simp)
          | 1, _ => exact Reg.Ob.pure rfl rfl rfl (fun rs => .pointer (some ⟨w.heap.size, 1, none⟩)) (fun _ => rfl) (fun rs wx a hs hd hl hk => by
              have e7 : (a.tmps[7]?).getD undef = .pointer (some ⟨w.heap.size, 0, none⟩) := hk 7 (by decide)
              have e143 : (a.tmps[143]?).getD undef = .int .i64 1 := hk 143 (by decide)
              go_simp)
          | 2, _ => exact Reg.Ob.pure rfl rfl rfl (fun rs => .pointer (some ⟨rb1, 0, none⟩)) (fun _ => rfl) (fun rs wx a hs hd hl hk => by
              have e144 : (a.tmps[144]?).getD undef = .pointer (some ⟨w.heap.size, 1, none⟩) := hk 144 (by decide)
              have c : wx.cell? ⟨w.heap.size, 1, none⟩ = some (.pointer (some ⟨rb1, 0, none⟩)) := blk_cell (hs.mem (hl 11 (by decide))).rs 1
              go_simp)
          | 3, _ => exact Reg.Ob.pure rfl rfl rfl (fun rs => .int .i64 1) (fun _ => rfl) (fun rs wx a hs hd hl hk => by
              have e13 : (a.tmps[13]?).getD undef = .int .i64 1 := hk 13 (by decide)
              go_simp)
          | 4, _ => exact Reg.Ob.pure rfl rfl rfl (fun rs => .int .i64 0) (fun _ => rfl) (fun rs wx a hs hd hl hk => by
              have e146 : (a.tmps[146]?).getD undef = .int .i64 1 := hk 146 (by decide)
              go_simp)
          | 5, _ => exact Reg.Ob.pure rfl rfl rfl (fun rs => .pointer (some ⟨w.heap.size + 1, 0, none⟩)) (fun _ => rfl) (fun rs wx a hs hd hl hk => by
              have e8 : (a.tmps[8]?).getD undef = .pointer (some ⟨w.heap.size + 1, 0, none⟩) := hk 8 (by decide)
              have e147 : (a.tmps[147]?).getD undef = .int .i64 0 := hk 147 (by decide)
              go_simp)
          | 6, _ => exact Reg.Ob.pure rfl rfl rfl (fun rs => .string nameAnn) (fun _ => rfl) (fun rs wx a hs hd hl hk => by
              have e148 : (a.tmps[148]?).getD undef = .pointer (some ⟨w.heap.size + 1, 0, none⟩) := hk 148 (by decide)
              have c : wx.cell? ⟨w.heap.size + 1, 0, none⟩ = some (.string nameAnn) := blk_cell (hs.mem (hl 11 (by decide))).ns 0
              go_simp)
          | 7, _ => exact Reg.Ob.pure rfl rfl rfl (fun rs => .pointer (some ⟨bl, 0, none⟩)) (fun _ => rfl) (fun rs wx a hs hd hl hk => by
              have e18 : (a.tmps[18]?).getD undef = .pointer (some ⟨bl, 0, none⟩) := hk 18 (by decide)
              go_simp)
          | 8, _ => exact Reg.Ob.pure rfl rfl rfl (fun rs => .int .i64 l.1) (fun _ => rfl) (fun rs wx a hs hd hl hk => by
              have e150 : (a.tmps[150]?).getD undef = .pointer (some ⟨bl, 0, none⟩) := hk 150 (by decide)
              have c : wx.cell? ⟨bl, 0, none⟩ = some (.int .i64 l.1) := blk_cell hs.lb 0
              go_simp)
          | 9, _ => exact Reg.Ob.pure rfl rfl rfl (fun rs => .pointer (some ⟨bl, 1, none⟩)) (fun _ => rfl) (fun rs wx a hs hd hl hk => by
              have e18 : (a.tmps[18]?).getD undef = .pointer (some ⟨bl, 0, none⟩) := hk 18 (by decide)
              go_simp)
          | 10, _ => exact Reg.Ob.pure rfl rfl rfl (fun rs => .int .u64 l.2) (fun _ => rfl) (fun rs wx a hs hd hl hk => by
              have e152 : (a.tmps[152]?).getD undef = .pointer (some ⟨bl, 1, none⟩) := hk 152 (by decide)
              have c : wx.cell? ⟨bl, 1, none⟩ = some (.int .u64 l.2) := blk_cell hs.lb 1
              go_simp)
          | 11, _ =>
            refine Reg.Ob.eff rfl rfl rfl ?_
            intro rs wx a hs hd hn hl hk K hK
            have e145 : (a.tmps[145]?).getD undef = .pointer (some ⟨rb1, 0, none⟩) := hk 145 (by decide)
            have e149 : (a.tmps[149]?).getD undef = .string nameAnn := hk 149 (by decide)
            have e151 : (a.tmps[151]?).getD undef = .int .i64 l.1 := hk 151 (by decide)
            have e153 : (a.tmps[153]?).getD undef = .int .u64 l.2 := hk 153 (by decide)
            have HS := Lib.hid hs
            have HN := Lib.hid hn
            have HL := Lib.hid (hl 16 (by decide))
            have HKK := Lib.hid hK
            clear hs hn hd hl hk hK
            go_simp
            refine (HC.out _ (HS.out.mem HN.out)).mono ?_
            rintro e w6 ⟨rfl, hro, hu⟩
            refine HKK.out _ _ ⟨Nat.le_trans HS.out.size hu.size, fun h => by simp [Reg.upd] at h, (HS.out.mem HN.out).box1 HS.out.lb (by decide) hu, fun u h => ?_, fun u h => ⟨(by have h2 : some (Value.tuple #[.agg #[.int .i64 t, .bool dn, .bool ch], .int .i64 0]) = some u := h; cases h2; rfl), (HS.out.mem HN.out).op1 hro hu⟩⟩
            obtain ⟨b, e1, e2, x0, x1, x2, e3, e4⟩ := HS.out.al u (by simpa [Reg.upd] using h)
            exact ⟨b, e1, e2, x0, x1, x2, (HS.out.mem HN.out).box1 e3 (by decide) hu, fun h => by simp [Reg.upd, HL.out] at h⟩
          | 12, _ => exact Reg.Ob.pure rfl rfl rfl (fun rs => ((rs 11).getD undef)) (fun _ => rfl) (fun rs wx a hs hd hl hk => by
              have e154 : (a.tmps[154]?).getD undef = ((rs 11).getD undef) := hk 154 (by decide)
              go_simp)
          | 13, _ => exact Reg.Ob.pure rfl rfl rfl (fun rs => (comp 0 ((rs 11).getD undef))) (fun _ => rfl) (fun rs wx a hs hd hl hk => by
              have e142 : (a.tmps[142]?).getD undef = ((rs 11).getD undef) := hk 142 (by decide)
              obtain ⟨u, hu⟩ := hd 11 (by decide) (by decide)
              obtain ⟨rfl, _⟩ := hs.post u hu
              rw [hu] at e142 ⊢
              simp only [Option.getD_some] at e142 ⊢
              rw [comp0]
              clear hs hd hl hk hu
              go_simp)
          | 14, _ => exact Reg.Ob.pure rfl rfl rfl (fun rs => (comp 1 ((rs 11).getD undef))) (fun _ => rfl) (fun rs wx a hs hd hl hk => by
              have e142 : (a.tmps[142]?).getD undef = ((rs 11).getD undef) := hk 142 (by decide)
              obtain ⟨u, hu⟩ := hd 11 (by decide) (by decide)
              obtain ⟨rfl, _⟩ := hs.post u hu
              rw [hu] at e142 ⊢
              simp only [Option.getD_some] at e142 ⊢
              rw [comp1]
              clear hs hd hl hk hu
              go_simp)
          | 15, _ =>
            refine Reg.Ob.eff rfl rfl rfl ?_
            intro rs wx a hs hd hn hl hk K hK
            have HS := Lib.hid hs
            have HL := Lib.hid (hl 16 (by decide))
            have HKK := Lib.hid hK
            clear hs hn hd hl hk hK
            go_simp
            have hbA : Below wx.heap.size wx (wx.alloc (.cells #[.int .i64 0, .bool false, .bool false] 40)) := (Below.refl _ _).alloc (Nat.le_refl _) _
            refine HKK.out _ _ ⟨Nat.le_trans HS.out.size hbA.size, fun h => (HS.out.mem (by simpa [Reg.upd] using h)).call hbA, blk_alloc HS.out.lb _, fun u h => ?_, fun u h => ?_⟩
            · have h2 : some (Value.pointer (some ⟨wx.heap.size, 0, none⟩)) = some u := h
              cases h2
              exact ⟨_, rfl, HS.out.size, _, _, _, blk_new _ _, fun h => by simp [Reg.upd, HL.out] at h⟩
            · obtain ⟨e1, e2⟩ := HS.out.post u (by simpa [Reg.upd] using h)
              exact ⟨e1, e2.call hbA⟩
          | 16, _ =>
            refine Reg.Ob.eff rfl rfl rfl ?_
            intro rs wx a hs hd hn hl hk K hK
            have e19 : (a.tmps[19]?).getD undef = ((rs 15).getD undef) := hk 19 (by decide)
            have e155 : (a.tmps[155]?).getD undef = (comp 0 ((rs 11).getD undef)) := hk 155 (by decide)
            obtain ⟨u11, hu11⟩ := hd 11 (by decide) (by decide)
            obtain ⟨u15, hu15⟩ := hd 15 (by decide) (by decide)
            obtain ⟨rfl, hpm⟩ := hs.post u11 hu11
            obtain ⟨b, rfl, hbw, x0, x1, x2, hbx, _⟩ := hs.al u15 hu15
            rw [hu15] at e19
            rw [hu11] at e155
            simp only [Option.getD_some, comp0] at e19 e155
            obtain ⟨z0, z1, z2, f0, f1, f2⟩ := cellsH hbx
            have HS := Lib.hid hs
            have HN := Lib.hid (And.intro hpm (And.intro hbw (And.intro hbx (And.intro hu11 hu15))))
            have HKK := Lib.hid hK
            clear hs hn hd hl hk hK hpm hbw hbx hu11 hu15
            go_simp
            exact HKK.out undef _ (HS.out.store HN.out.2.2.2.1 HN.out.2.2.2.2 HN.out.2.1 HN.out.2.2.1 (HN.out.1.heard HN.out.2.2.1 (Nat.le_trans HM.out.below.size HN.out.2.1) _ _ _) _)
          | 17, _ => exact Reg.Ob.pure rfl rfl rfl (fun rs => (comp 1 ((rs 11).getD undef))) (fun _ => rfl) (fun rs wx a hs hd hl hk => by
              have e156 : (a.tmps[156]?).getD undef = (comp 1 ((rs 11).getD undef)) := hk 156 (by decide)
              go_simp)
          | n + 18, h => exact absurd h (by simp <;> omega)
        case h0 =>
          exact ⟨by simp, fun _ => HM.out.drew, HLB.out, fun u hu => (by cases hu), fun u hu => (by cases hu)⟩
        case hend =>
          intro rs wx hs hd
          obtain ⟨u11, hu11⟩ := hd 11 (by decide) (by decide)
          obtain ⟨u15, hu15⟩ := hd 15 (by decide) (by decide)
          obtain ⟨u16, hu16⟩ := hd 16 (by decide) (by decide)
          obtain ⟨rfl, hpm⟩ := hs.post u11 hu11
          obtain ⟨b, rfl, hbw, x0, x1, x2, hbx, hxx⟩ := hs.al u15 hu15
          obtain ⟨rfl, rfl, rfl⟩ := hxx (by rw [hu16]; rfl)
          have HR := Lib.hid (And.intro hpm (And.intro hbx hs.lb))
          simp only [List.foldl_cons, List.foldl_nil, Act.put, List.setIfInBounds_toArray, List.set_cons_zero, List.set_cons_succ]
          rw [hu11, hu15]
          simp only [Option.getD_some, comp0, comp1]
          clear hs hd hu11 hu15 hu16 hpm hbx hxx
          go_wp2_with fail
          go_meet
          exact ⟨b, rfl, rfl, HR.out.1, HR.out.2.1, HR.out.2.2⟩
      case rest =>
        obtain ⟨bh, rfl, rfl, hpm, hhb, hlb⟩ := hcut
        clear HC HM HLB HT2 zl zr zn b0 b1 b2 b3 hw0
        have y1 : wc.cell? ⟨bh, 1, none⟩ = some (.bool dn) := blk_cell hhb 1
        have hgk := HG.out.1
        have HBD := Lib.hid HP.out.2.2
        cases dn with
        | false =>
          have HF := Lib.hid (And.intro hpm (HP.out.2.1 rfl).swap)
          clear hgk HP hpm hhb hlb
          go_wp2_with fail
          have hgk := HG.out
          have hbd := HBD.out
          have hvv := HV.out
          have hl1 := wt1_pos l
          obtain ⟨g', hg'⟩ : ∃ g', g' = 6 * (min L 150 - (k + 1)) + 2 * (wt q0 + wt q') + (if (if (k + 1) % 2 = 0 then q0 else q') = [] then 1 else 0) := ⟨_, rfl⟩
          have hlt : g' < gk := by rw [hgk.1, hg', wt_cons]; split <;> split <;> omega
          go_roundg g'
          case measure => exact hlt
          case rel => exact ⟨k + 1, rb0, mb0, rb1, mb1, _, _, R, S', q0, q', by go_num, HF.out.1, HF.out.2, ⟨hg', by omega⟩, by omega⟩
        | true =>
          have h1 := HDN.out rfl
          have hinv := HP.out.1 rfl
          have y2 : wc.cell? ⟨bl, 1, none⟩ = some (.int .u64 l.2) := blk_cell hlb 1
          have x1 : wc.cell? ⟨w.heap.size + 2, 0, none⟩ = some (.slice A0 q0.length c0) := blk_cell hpm.ws 0
          have x2 : wc.frozen? ⟨w.heap.size + 2, 0, none⟩ = false := blk_frozen hpm.ws 0
          have hw0 : IntKind.i64.wrap 0 = 0 := by decide
          obtain ⟨i0, hi, hz0, hz1, hz2⟩ := info_parts letterInfo
          have hql : q0.length ≤ 901 := by have := len_le_wt q0; omega
          have zwd := hpm.below.size
          have zw : w.heap.size + 1 + 1 < wc.heap.size := blk_lt hpm.ws
          have zbl : bl < wc.heap.size := blk_lt hlb
          have HM := Lib.hid hpm
          have HIN := Lib.hid hinv.swap
          have HL1 := Lib.hid h1
          have hne := Lib.hid hpm.ws_ne.1
          clear hgk HP HDN hpm hhb hlb h1 hinv
          go_wp2_with fail
          refine wp_last (fun _ _ => ?_)
          go_cut [171] (fun s171 wx => ∃ A2 c2, PMem w wx w.heap.size w.heap.size rb0 mb0 rb1 mb1 (.slice A2 (q0.length + 1) c2) (.slice (some ⟨gq, o2, none⟩) q'.length (c1 - 1)) R S' (q0 ++ [(4, l.2)]) q')
          case first =>
            go_region_law ((refine step_append_seq _ (by rfl) _ _ 26 (by rfl) (w.heap.size) 38 i0 (.agg #[.int .i64 0, .int .u64 0]) 2 16 Tryd.underlying26 hi hz0 hz1 hz2 rfl _ q0.length (flatL q0) (by rfl) (by exact (HM.out.alloc _).drew.s0) ⟨wc.heap.size, 0, none⟩ 1 1 [.int .i64 4, .int .u64 l.2] (by rfl) rfl (fun j u hu => by match j, hu with | 0, hu => simpa [go_sem, Addr.add] using hu | 1, hu => simpa [go_sem, Addr.add] using hu) (fun u hu => by simp at hu; rcases hu with rfl | rfl <;> rfl) (by decide) (by unfold maxLen; omega) (by omega) (by simp; omega) ?_; intro v w5 hseq hgrow hat; obtain ⟨A2, c2, rfl⟩ := hseq.shape; have bw5 := blk_grown (HM.out.alloc (.cells #[.int .i64 4, .int .u64 l.2] 38)).drew.ws hgrow (Ne.symm hne.out); have x3 : w5.cell? ⟨w.heap.size + 2, 0, none⟩ = some (.slice A0 q0.length c0) := blk_cell bw5 0; have x4 : w5.frozen? ⟨w.heap.size + 2, 0, none⟩ = false := blk_frozen bw5 0; have HFF := Lib.hid ((HM.out.alloc (.cells #[.int .i64 4, .int .u64 l.2] 38)).drew.push0 hgrow hseq hat); clear hseq hgrow hat bw5))
            all_goals
              go_wp2_with fail
              go_meet
              exact ⟨A2, c2, HFF.out⟩
          case rest =>
            obtain ⟨A2, c2, hfin⟩ := hcut
            have HF := Lib.hid (And.intro hfin HIN.out)
            clear hfin HIN HM hne x1 x2 y1 y2
            go_wp2_with fail
            obtain ⟨hgk1, hgk2⟩ := HG.out
            have hbd := HBD.out
            have hvv := HV.out
            obtain ⟨g', hg'⟩ : ∃ g', g' = 6 * (min L 150 - (k + 1)) + 2 * (wt (q0 ++ [(4, l.2)]) + wt q') + (if (if (k + 1) % 2 = 0 then q0 ++ [(4, l.2)] else q') = [] then 1 else 0) := ⟨_, rfl⟩
            have hlt : g' < gk := by rw [hgk1, hg']; exact meas_lt (wt_answer1 HL1.out)
            clear hgk1
            have hb1 : k + 1 + g' ≤ 901 := by clear hg'; omega
            have hb2 : R.next ≤ ((k + 1 : Nat) : Int) ∧ S'.next ≤ ((k + 1 : Nat) : Int) ∧ 0 ≤ R.ver ∧ R.ver ≤ ((k + 1 : Nat) : Int) ∧ 0 ≤ S'.ver ∧ S'.ver ≤ ((k + 1 : Nat) : Int) := by clear hg' hlt hb1; omega
            go_roundg g'
            case measure => exact hlt
            case rel => exact ⟨k + 1, rb0, mb0, rb1, mb1, _, _, R, S', q0 ++ [(4, l.2)], q', by go_num, HF.out.1, HF.out.2, ⟨hg', hb1⟩, hb2⟩
end Go.Proofs.YthbjcihdlhkboaaDoor
