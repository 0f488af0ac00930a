/- The reference's texts, sorted: each laid where it belongs. The reference's roster: the items; the contacts of whose half something holds. The program's roster: the contacts of whose half something holds. A name that was folded is folded. -/
import Derived.Lib.MapLaws
import Derived.Lib.ValidLaws
import Derived.Test.YthbjcihdlhkboaaGreatDoorQ25
namespace Go.Proofs.YthbjcihdlhkboaaGreatDoor
set_option linter.unusedSimpArgs false
set_option linter.unusedVariables false
open Go.RowKit Go.Maps Go.Shelf Go.Lib

theorem cutStr : Tryz.prog.underlying 32 = some (.slice (Tryz.prog.elem 32)) ∧ ∀ w, (sizeOf (Tryz.prog.elem 32)).run Tryz.prog w = .ok 1 w := ⟨by kernel_rfl, fun _ => by kernel_rfl⟩
theorem flatS_take (l : List ByteArray) (k : Nat) : (flatS l).take k = flatS (l.take k) := by simp [flatS, List.map_take]
theorem flatS_drop (l : List ByteArray) (k : Nat) : (flatS l).drop k = flatS (l.drop k) := by simp [flatS, List.map_drop]
theorem flatS_app (l m : List ByteArray) : flatS (l ++ m) = flatS l ++ flatS m := by simp [flatS]
theorem flatS_at {l : List ByteArray} {j : Nat} {r : ByteArray} (h : l[j]? = some r) : (flatS l)[j]? = some (.string r) := by simp [flatS, h]
/-- A text of a slice. -/
theorem Seq.txt {w : World} {B : Nat} {A : Option Addr} {n c j : Nat} {l : List ByteArray} {r : ByteArray} (h : Seq w B 9 1 (.slice A n c) n (flatS l)) (hj : l[j]? = some r) : ∃ b off, A = some ⟨b, off, none⟩ ∧ b < w.heap.size ∧ w.cell? ⟨b, off + j, none⟩ = some (.string r) := by
  have hlt := (List.getElem?_eq_some_iff.1 hj).1
  have hn : j < n := by have := h.1; rw [flatS_len] at this; omega
  obtain ⟨g, off, cap, hv, hb, hg, _⟩ := h.form (by omega)
  cases hv
  exact ⟨g, off, rfl, hg, by rw [h.cell j (by omega)]; exact flatS_at hj⟩
/-- A new slice of texts grows. -/
theorem grow_below {w wx w2 : World} {v : Value} {n : Nat} {xs : List Value} (hb : Below w.heap.size w wx) (hs : Seq wx w.heap.size 9 1 v n xs) (hg : wx.grownBy w2 v.ownBlock) : Below w.heap.size w w2 :=
  hb.grown hg hb.size fun k hk => (hs.lt k hk).1

set_option maxRecDepth 100000 in
set_option maxHeartbeats 16000000 in
theorem q16sorted_any (w : World) (v : Value) (gs : List ByteArray) (hg : Strs w v gs) (hl : gs.length ≤ 1000000) :
    Calls Tryz.prog 101 #[v] w fun e w' => (∃ A c, e = .returned (.slice A (sortG gs).length c) ∧ Seq w' w.heap.size 9 1 (.slice A (sortG gs).length c) (sortG gs).length (flatS (sortG gs))) ∧ Below w.heap.size w w' := by
  rw [← sortR_eq]
  obtain ⟨GA, gc, rfl⟩ : ∃ A cap, v = .slice A gs.length cap := let ⟨⟨A, cap, h, _⟩, _⟩ := hg; ⟨A, cap, h⟩
  have HG := Lib.hid hg
  have HL := Lib.hid hl
  obtain ⟨fin, hfin⟩ : ∃ fin, sortR gs = fin := ⟨_, rfl⟩
  rw [hfin]
  have HF := Lib.hid hfin
  clear hg hl hfin
  go_enter Tryz.func101, Tryz.ntmps101
  go_wp2_with fail
  go_loopg [3, 4] gs.length (fun g s3 s4 wx => ∃ k : Nat, k ≤ gs.length ∧ g = gs.length - k ∧ s4 = .int .i64 k ∧ Below w.heap.size w wx ∧ Seq wx w.heap.size 9 1 s3 (sortR (gs.take k)).length (flatS (sortR (gs.take k))))
  case atStart => exact ⟨0, Nat.zero_le _, rfl, rfl, Below.refl _ _, Seq.nil _ _ _ _⟩
  case round =>
    obtain ⟨k, hk, hgk, rfl, hbx, hsq⟩ := hrel
    obtain ⟨OA, oc, rfl⟩ := hsq.shape
    have t0 : (0 : Int) ≤ (k : Int) := by omega
    have HK := Lib.hid (And.intro hk hgk)
    clear hgk
    by_cases hlt : k < gs.length
    · have t1 : (k : Int) < (gs.length : Int) := by omega
      have hw : IntKind.i64.wrap ((k : Int) + 1) = (k : Int) + 1 := IntWalk.i64_in _ (by have := HL.out; omega)
      have hL1 := sortR_len_take gs k
      have htk : sortR (gs.take (k + 1)) = putT (sortR (gs.take k)) gs[k] := by rw [List.take_succ_eq_append_getElem hlt, sortR, List.foldl_append]; rfl
      obtain ⟨gb, go, rfl, _, hgb, yx⟩ := (HG.out.below hbx).at hlt
      obtain ⟨x, hx⟩ : ∃ x, gs[k] = x := ⟨_, rfl⟩
      rw [hx] at htk yx
      have hsrt := sortR_sorted (gs.take k)
      obtain ⟨L, hL⟩ : ∃ L, sortR (gs.take k) = L := ⟨_, rfl⟩
      rw [hL] at hsq hL1 htk hsrt ⊢
      obtain ⟨wo, hwo⟩ : ∃ wo : World, wo = wr := ⟨_, rfl⟩
      subst hwo
      have HX := Lib.hid (And.intro hbx hsq)
      have HT := Lib.hid (And.intro htk (And.intro hsrt hL1))
      have HYX := Lib.hid (And.intro hgb yx)
      clear hbx hsq htk hsrt hL hx hlt hk yx hgb
      go_wp2_with fail
      go_loopg [5] L.length (fun g s5 wx => ∃ j : Nat, j ≤ L.length ∧ g = L.length - j ∧ s5 = .int .i64 j ∧ Below wo.heap.size wo wx ∧ ∀ i r, i < j → L[i]? = some r → Srt.ltS r x = true)
      case atStart => exact ⟨0, Nat.zero_le _, rfl, rfl, Below.refl _ _, fun i r hi => by omega⟩
      case round =>
        obtain ⟨j, hj, hgj, rfl, hbj, hlt⟩ := hrel
        have HJ := Lib.hid (And.intro hj (And.intro hgj hlt))
        have u0 : (0 : Int) ≤ (j : Int) := by omega
        have yx : wr.cell? ⟨gb, go + k, none⟩ = some (.string x) := (hbj.cell HYX.out.1).trans HYX.out.2
        have HBJ := Lib.hid hbj
        have hlL := HT.out.2.2
        have hLl := HL.out
        have hKk := HK.out.1
        clear hgj hlt hbj
        by_cases hjl : j < L.length
        · have u1 : (j : Int) < (L.length : Int) := by omega
          obtain ⟨r, hr⟩ : ∃ r, L[j]? = some r := ⟨_, List.getElem?_eq_getElem hjl⟩
          obtain ⟨ob, oo, rfl, hob, y1⟩ := HX.out.2.txt hr
          have yo : wr.cell? ⟨ob, oo + j, none⟩ = some (.string r) := (HBJ.out.cell hob).trans y1
          have HR := Lib.hid (And.intro hr hob)
          clear hr hob y1
          cases hl : Srt.ltS r x with
          | true =>
            have hwj : IntKind.i64.wrap ((j : Int) + 1) = (j : Int) + 1 := IntWalk.i64_in _ (by omega)
            unfold Srt.ltS at hl
            go_wp2_with fail
            go_quiet (fail)
            go_wp2_with fail
            have HLL := Lib.hid hl
            clear hl
            go_roundg (L.length - (j + 1))
            case measure => have := HJ.out.2.1; omega
            case rel =>
              refine ⟨j + 1, by omega, rfl, by go_num, HBJ.out.trans ((below_drewNs _ _).mono HBJ.out.size), fun i q hi hq => ?_⟩
              by_cases e : i = j
              · subst e
                rw [HR.out.1] at hq
                cases hq
                exact HLL.out
              · exact HJ.out.2.2 i q (by omega) hq
          | false =>
            have hpj : Srt.pos (fun s : ByteArray => s) L x = j := Srt.pos_eq (by omega) HJ.out.2.2 (fun q hq => by rw [HR.out.1] at hq; cases hq; exact hl)
            have hij : Srt.isAt (fun s : ByteArray => s) L x = (r.toList == x.toList) := by
              unfold Srt.isAt
              rw [hpj, HR.out.1]
            have HP := Lib.hid (And.intro hpj hij)
            clear hpj hij
            unfold Srt.ltS at hl
            cases hq : (r.toList == x.toList) with
            | true =>
              have HQ := Lib.hid hq
              go_wp2_with fail
              go_quiet (fail)
              go_wp2_with fail
              go_quiet (fail)
              go_wp2_with fail
              go_roundg (gs.length - (k + 1))
              case measure => have := HK.out.2; omega
              case rel =>
                have hput : putT L x = L := by
                  have hi := HP.out.2.trans HQ.out
                  unfold putT
                  rw [Srt.put_set hi, HP.out.1]
                  have : r = x := Srt.eqS.1 HQ.out
                  subst this
                  exact List.ext_getElem? fun i => by
                    rw [List.getElem?_set]
                    split
                    · rename_i e; subst e; rw [HR.out.1]
                    · rfl
                refine ⟨k + 1, by omega, rfl, by go_num, HX.out.1.trans ((HBJ.out.trans ?_).mono HX.out.1.size), ?_⟩
                · exact (below_drewNs _ _).mono HBJ.out.size
                · rw [HT.out.1, hput]
                  exact HX.out.2.below (HBJ.out.trans ((below_drewNs _ _).mono HBJ.out.size)) fun q hq => (HX.out.2.lt q hq).2
            | false =>
              have HQ := Lib.hid hq
              have hput : putT L x = L.take j ++ [x] ++ L.drop j := by
                have hi := HP.out.2.trans HQ.out
                unfold putT Srt.put Srt.rest
                rw [hi, HP.out.1]
                rfl
              have HPUT := Lib.hid hput
              clear hput
              go_wp2_with fail
              go_quiet (fail)
              go_wp2_with fail
              go_quiet (fail)
              generalize hW0 : World.drewN _ _ = w0
              have hb0 : Below wo.heap.size wo w0 := by
                rw [← hW0]
                exact HBJ.out.trans (((below_drewNs wr _).trans ((below_drewNs (World.drewN wr _) _).mono (Nat.le_refl _))).mono HBJ.out.size)
              clear hW0
              have hs0 := HX.out.2.below hb0 (fun q hq => (HX.out.2.lt q hq).2)
              have yx0 : w0.cell? ⟨gb, go + k, none⟩ = some (.string x) := (hb0.cell HYX.out.1).trans HYX.out.2
              have hh := hs0.cut_h1 (k := j) cutStr.1 cutStr.2 (by omega)
              obtain ⟨D, hl⟩ := hs0.cut_l1 (k := j) cutStr.1 cutStr.2 (by omega)
              have Hh := Lib.hid hh
              have Hl := Lib.hid hl
              have H0 := Lib.hid (And.intro hb0 (World.block_lt_of_cell? w0 _ yx0))
              clear hb0 hs0 hh hl
              obtain ⟨i0, hi0, hz0, hz1, hz2⟩ := info_parts strInfo
              have kk := Hh.out.2
              go_wp2_with (at_builtin; refine wpList_append_src _ rfl _ _ 32 rfl w0.heap.size 9 i0 (.string ⟨#[]⟩) 1 16 Tryz.underlying32 hi0 hz0 hz1 hz2 rfl _ 0 [] rfl (Seq.nil _ _ _ _) (some ⟨ob, oo, none⟩) j oc ((flatS L).take j) rfl (Hh.out.1.src _ (fun u hu => flatS_one (List.mem_of_mem_take hu))) (by unfold maxLen; omega) (by omega) (Nat.le_refl _) ?_)
              intro v1 w1 hs1 hg1
              try simp only [Nat.zero_add, List.nil_append] at hs1
              have hb1 : Below w0.heap.size w0 w1 := grow_below (Below.refl _ _) (Seq.nil _ _ _ _) hg1
              have yx1 : w1.cell? ⟨gb, go + k, none⟩ = some (.string x) := (hb1.cell H0.out.2).trans yx0
              have H1 := Lib.hid (And.intro hb1 hs1)
              obtain ⟨P1, q1, rfl⟩ := hs1.shape
              clear hb1 hs1 hg1 yx0 kk
              go_wp2_with (at_builtin; refine wpList_append_seq _ rfl _ _ 32 rfl w0.heap.size 9 i0 (.string ⟨#[]⟩) 1 16 Tryz.underlying32 hi0 hz0 hz1 hz2 rfl _ j ((flatS L).take j) rfl (H1.out.2.alloc _) ⟨w1.heap.size, 0, none⟩ 1 1 [.string x] rfl rfl ?c1 ?c2 (by decide) (by unfold maxLen; omega) (by omega) (by have := H1.out.1.size; simp; omega) ?_)
              case c1 => intro j u hu; match j, hu with | 0, hu => simpa [go_sem, Addr.add] using hu
              case c2 => intro u hu; simp at hu; subst hu; rfl
              intro v2 w2 hs2 hg2 _
              have hb2 : Below w0.heap.size w0 w2 := grow_below (H1.out.1.alloc H1.out.1.size _) (H1.out.2.alloc _) hg2
              have H2 := Lib.hid (And.intro hb2 hs2)
              obtain ⟨P2, q2, rfl⟩ := hs2.shape
              have kk := Hl.out.2
              clear hb2 hs2 hg2 yx1 H1
              go_wp2_with (at_builtin; refine wpList_append_src _ rfl _ _ 32 rfl w0.heap.size 9 i0 (.string ⟨#[]⟩) 1 16 Tryz.underlying32 hi0 hz0 hz1 hz2 rfl _ (j + 1) ((flatS L).take j ++ [Value.string x]) rfl H2.out.2 D (L.length - j) (oc - j) ((flatS L).drop j) rfl ((Hl.out.1.below H2.out.1 (fun q hq => (Hl.out.1.lt q hq).2)).src _ (fun u hu => flatS_one (List.mem_of_mem_drop hu))) (by unfold maxLen; omega) (by omega) H2.out.1.size ?_)
              intro v3 w3 hs3 hg3
              have hb3 : Below w0.heap.size w0 w3 := grow_below H2.out.1 H2.out.2 hg3
              have hfin : (flatS L).take j ++ [Value.string x] ++ (flatS L).drop j = flatS (putT L x) := by
                rw [HPUT.out, flatS_app, flatS_app, ← flatS_take, ← flatS_drop]
                rfl
              have hlen : j + 1 + (L.length - j) = (putT L x).length := by rw [HPUT.out]; simp; omega
              replace hs3 : Seq w3 w0.heap.size 9 1 v3 (putT L x).length (flatS (putT L x)) := by rw [← hfin, ← hlen]; simpa using hs3
              have H3 := Lib.hid (And.intro hb3 hs3)
              obtain ⟨P3, q3, rfl⟩ := hs3.shape
              clear hb3 hs3 hg3 hfin hlen kk H2
              go_wp2_with fail
              go_roundg (gs.length - (k + 1))
              case measure => have := HK.out.2; omega
              case rel =>
                have hall : Below wo.heap.size wo w3 := H0.out.1.trans (H3.out.1.mono H0.out.1.size)
                refine ⟨k + 1, by omega, rfl, by go_num, HX.out.1.trans (hall.mono HX.out.1.size), ?_⟩
                rw [HT.out.1]
                exact H3.out.2.lower (Nat.le_trans HX.out.1.size H0.out.1.size)
        · have hje : j = L.length := by omega
          have u1 : ¬ (j : Int) < (L.length : Int) := by omega
          have hpj : Srt.pos (fun s : ByteArray => s) L x = j := Srt.pos_eq (by omega) HJ.out.2.2 (fun q hq => by have := (List.getElem?_eq_some_iff.1 hq).1; omega)
          have hput : putT L x = L.take j ++ [x] ++ L.drop j := by
            have hi : Srt.isAt (fun s : ByteArray => s) L x = false := by unfold Srt.isAt; rw [hpj, List.getElem?_eq_none (by omega)]
            unfold putT Srt.put Srt.rest
            rw [hi, hpj]
            rfl
          have HPUT := Lib.hid hput
          clear hput hpj hje
          go_wp2_with fail
          go_quiet (fail)
          go_wp2_with fail
          go_quiet (fail)
          generalize hW0 : World.drewN _ _ = w0
          have hb0 : Below wo.heap.size wo w0 := by
            rw [← hW0]
            exact HBJ.out.trans (((below_drewNs wr _).trans ((below_drewNs (World.drewN wr _) _).mono (Nat.le_refl _))).mono HBJ.out.size)
          clear hW0
          have hs0 := HX.out.2.below hb0 (fun q hq => (HX.out.2.lt q hq).2)
          have yx0 : w0.cell? ⟨gb, go + k, none⟩ = some (.string x) := (hb0.cell HYX.out.1).trans HYX.out.2
          have hh := hs0.cut_h1 (k := j) cutStr.1 cutStr.2 (by omega)
          obtain ⟨D, hl⟩ := hs0.cut_l1 (k := j) cutStr.1 cutStr.2 (by omega)
          have Hh := Lib.hid hh
          have Hl := Lib.hid hl
          have H0 := Lib.hid (And.intro hb0 (World.block_lt_of_cell? w0 _ yx0))
          clear hb0 hs0 hh hl
          obtain ⟨i0, hi0, hz0, hz1, hz2⟩ := info_parts strInfo
          have kk := Hh.out.2
          go_wp2_with (at_builtin; refine wpList_append_src _ rfl _ _ 32 rfl w0.heap.size 9 i0 (.string ⟨#[]⟩) 1 16 Tryz.underlying32 hi0 hz0 hz1 hz2 rfl _ 0 [] rfl (Seq.nil _ _ _ _) (OA) j oc ((flatS L).take j) rfl (Hh.out.1.src _ (fun u hu => flatS_one (List.mem_of_mem_take hu))) (by unfold maxLen; omega) (by omega) (Nat.le_refl _) ?_)
          intro v1 w1 hs1 hg1
          try simp only [Nat.zero_add, List.nil_append] at hs1
          have hb1 : Below w0.heap.size w0 w1 := grow_below (Below.refl _ _) (Seq.nil _ _ _ _) hg1
          have yx1 : w1.cell? ⟨gb, go + k, none⟩ = some (.string x) := (hb1.cell H0.out.2).trans yx0
          have H1 := Lib.hid (And.intro hb1 hs1)
          obtain ⟨P1, q1, rfl⟩ := hs1.shape
          clear hb1 hs1 hg1 yx0 kk
          go_wp2_with (at_builtin; refine wpList_append_seq _ rfl _ _ 32 rfl w0.heap.size 9 i0 (.string ⟨#[]⟩) 1 16 Tryz.underlying32 hi0 hz0 hz1 hz2 rfl _ j ((flatS L).take j) rfl (H1.out.2.alloc _) ⟨w1.heap.size, 0, none⟩ 1 1 [.string x] rfl rfl ?c1 ?c2 (by decide) (by unfold maxLen; omega) (by omega) (by have := H1.out.1.size; simp; omega) ?_)
          case c1 => intro j u hu; match j, hu with | 0, hu => simpa [go_sem, Addr.add] using hu
          case c2 => intro u hu; simp at hu; subst hu; rfl
          intro v2 w2 hs2 hg2 _
          have hb2 : Below w0.heap.size w0 w2 := grow_below (H1.out.1.alloc H1.out.1.size _) (H1.out.2.alloc _) hg2
          have H2 := Lib.hid (And.intro hb2 hs2)
          obtain ⟨P2, q2, rfl⟩ := hs2.shape
          have kk := Hl.out.2
          clear hb2 hs2 hg2 yx1 H1
          go_wp2_with (at_builtin; refine wpList_append_src _ rfl _ _ 32 rfl w0.heap.size 9 i0 (.string ⟨#[]⟩) 1 16 Tryz.underlying32 hi0 hz0 hz1 hz2 rfl _ (j + 1) ((flatS L).take j ++ [Value.string x]) rfl H2.out.2 D (L.length - j) (oc - j) ((flatS L).drop j) rfl ((Hl.out.1.below H2.out.1 (fun q hq => (Hl.out.1.lt q hq).2)).src _ (fun u hu => flatS_one (List.mem_of_mem_drop hu))) (by unfold maxLen; omega) (by omega) H2.out.1.size ?_)
          intro v3 w3 hs3 hg3
          have hb3 : Below w0.heap.size w0 w3 := grow_below H2.out.1 H2.out.2 hg3
          have hfin : (flatS L).take j ++ [Value.string x] ++ (flatS L).drop j = flatS (putT L x) := by
            rw [HPUT.out, flatS_app, flatS_app, ← flatS_take, ← flatS_drop]
            rfl
          have hlen : j + 1 + (L.length - j) = (putT L x).length := by rw [HPUT.out]; simp; omega
          replace hs3 : Seq w3 w0.heap.size 9 1 v3 (putT L x).length (flatS (putT L x)) := by rw [← hfin, ← hlen]; simpa using hs3
          have H3 := Lib.hid (And.intro hb3 hs3)
          obtain ⟨P3, q3, rfl⟩ := hs3.shape
          clear hb3 hs3 hg3 hfin hlen kk H2
          go_wp2_with fail
          go_roundg (gs.length - (k + 1))
          case measure => have := HK.out.2; omega
          case rel =>
            have hall : Below wo.heap.size wo w3 := H0.out.1.trans (H3.out.1.mono H0.out.1.size)
            refine ⟨k + 1, by omega, rfl, by go_num, HX.out.1.trans (hall.mono HX.out.1.size), ?_⟩
            rw [HT.out.1]
            exact H3.out.2.lower (Nat.le_trans HX.out.1.size H0.out.1.size)
    · obtain rfl : k = gs.length := by omega
      have t1 : ¬ ((gs.length : Nat) : Int) < (gs.length : Int) := by omega
      rw [List.take_length, HF.out] at hsq
      have HS := Lib.hid (And.intro hbx hsq)
      rw [List.take_length, HF.out]
      clear hbx hsq
      go_wp2_with fail
      go_ret
      exact ⟨⟨OA, oc, rfl, HS.out.2⟩, HS.out.1⟩
end Go.Proofs.YthbjcihdlhkboaaGreatDoor

namespace Go.Proofs.YthbjcihdlhkboaaGreatDoor
set_option linter.unusedSimpArgs false
set_option linter.unusedVariables false
open Go.RowKit Go.Maps Go.Shelf Go.Lib

theorem take_filter {l : List Ent} {k : Nat} {e : Ent} (p : Ent → Bool) (hk : l[k]? = some e) : (l.take (k + 1)).filter p = (l.take k).filter p ++ if p e = true then [e] else [] := by
  obtain ⟨hlt, rfl⟩ := List.getElem?_eq_some_iff.1 hk
  rw [List.take_succ_eq_append_getElem hlt, List.filter_append]
  cases h : p l[k] <;> simp [h]
/-- The groups of all entries are few. -/
def FewG (R : RS) : Prop := ∀ e ∈ R.rows, e.groups.length ≤ 1000000

theorem Ents.pushed {w w' : World} {B : Nat} {v v' : Value} {l : List Ent} {e : Ent} {g : Value} {es : List (Ent × Value)} (he : es.map (·.1) = l) (hs : Seq w B 54 8 v l.length (flatE es)) (hg : ∀ p ∈ es, Grp w B p.2 p.1.groups) (hge : Grp w B g e.groups)
    (hs' : Seq w' B 54 8 v' (l.length + 1) (flatE es ++ e.cells g)) (hgr : w.grownBy w' v.ownBlock) : Ents w' B v' (l ++ [e]) := by
  subst he
  rw [List.length_map] at hs hs'
  exact Ents.push hs hg hge hs' hgr

set_option maxRecDepth 100000 in
set_option maxHeartbeats 8000000 in
theorem q16items_any {w : World} {B qb : Nat} {X : Nat → Prop} {R : RS} (h : QAt w B X qb R) (hn : R.rows.length ≤ 1000000) (hfew : FewG R) :
    Calls Tryz.prog 78 #[.pointer (some ⟨qb, 0, none⟩)] w fun r w' => ∃ A c, r = .returned (.slice A R.kepts.length c) ∧ Ents w' w.heap.size (.slice A R.kepts.length c) R.kepts ∧ Below w.heap.size w w' := by
  obtain ⟨A0, c0, hq, hE⟩ := h.open
  have c4 : w.cell? ⟨qb, 4, none⟩ = some (.slice A0 R.rows.length c0) := blk_cell hq 4
  have hqb := h.lt
  have hkr : R.kepts = R.rows.filter (·.kept) := RS.all_filter _ _
  have hfew2 : ∀ e ∈ R.rows, e.groups.length ≤ 1000000 := hfew
  rw [hkr]
  obtain ⟨l, hl⟩ : ∃ l, R.rows = l := ⟨_, rfl⟩
  rw [hl] at hE hn c4 hfew2 ⊢
  have HE := Lib.hid hE
  have HN := Lib.hid hn
  have HC4 := Lib.hid c4
  have HFEW := Lib.hid hfew2
  clear h hq hE hn hl hkr hfew hfew2 c4
  go_enter Tryz.func78, Tryz.ntmps78
  go_wp2_with fail
  go_loopg [3, 4] l.length (fun g s3 s4 wx => ∃ k : Nat, k ≤ l.length ∧ g = l.length - k ∧ s4 = .int .i64 k ∧ Below w.heap.size w wx ∧ Ents wx w.heap.size s3 ((l.take k).filter (·.kept)))
  case atStart => exact ⟨0, Nat.zero_le _, rfl, rfl, Below.refl _ _, Ents.nil _ _⟩
  case round =>
    obtain ⟨k, hk, hgk, rfl, hbx, hents⟩ := hrel
    obtain ⟨SA, sc, rfl⟩ := hents.shape
    have t0 : (0 : Int) ≤ (k : Int) := by omega
    have c4 : wr.cell? ⟨qb, 4, none⟩ = some (.slice A0 l.length c0) := (hbx.cell hqb).trans HC4.out
    have hnl := HN.out
    have HX := Lib.hid (And.intro hbx hents)
    have HK := Lib.hid (And.intro hk hgk)
    clear hgk
    by_cases hlt : k < l.length
    · have t1 : (k : Int) < (l.length : Int) := by omega
      have hw : IntKind.i64.wrap ((k : Int) + 1) = (k : Int) + 1 := IntWalk.i64_in _ (by omega)
      obtain ⟨e, he⟩ : ∃ e, l[k]? = some e := ⟨_, List.getElem?_eq_getElem hlt⟩
      have htf := take_filter (·.kept) he
      obtain ⟨b, off, g, rfl, hb, hgx, hcell⟩ := (HE.out.below hbx).get he
      obtain ⟨GA, gcap, rfl⟩ := hgx.shape
      have hgl := HFEW.out e (List.mem_of_getElem? he)
      obtain ⟨contact, kept, name, groups, ⟨o, n, i, m⟩⟩ := e
      have y0 : wr.cell? ⟨b, off + k * 8, none⟩ = some (.string contact) := hcell 0 (by decide)
      have y1 : wr.cell? ⟨b, off + k * 8 + 1, none⟩ = some (.bool kept) := hcell 1 (by decide)
      have y2 : wr.cell? ⟨b, off + k * 8 + 2, none⟩ = some (.string name) := hcell 2 (by decide)
      have y3 : wr.cell? ⟨b, off + k * 8 + 3, none⟩ = some (.slice GA groups.length gcap) := hcell 3 (by decide)
      have y4 : wr.cell? ⟨b, off + k * 8 + 4, none⟩ = some (.int .i64 o) := hcell 4 (by decide)
      have y5 : wr.cell? ⟨b, off + k * 8 + 5, none⟩ = some (.int .u64 n) := hcell 5 (by decide)
      have y6 : wr.cell? ⟨b, off + k * 8 + 6, none⟩ = some (.int .i64 i) := hcell 6 (by decide)
      have y7 : wr.cell? ⟨b, off + k * 8 + 7, none⟩ = some (.int .u64 m) := hcell 7 (by decide)
      have HT := Lib.hid (q16twin_any wr ⟨contact, kept, name, groups, ⟨o, n, i, m⟩⟩ (.slice GA groups.length gcap) hgx.1.strs hgl)
      clear hbx hents hk hcell hgx hgl he hlt
      cases kept with
      | false =>
        have HTF := Lib.hid htf
        clear htf
        go_wp2_with fail
        go_roundg (l.length - (k + 1))
        case measure => have := HK.out.2; omega
        case rel =>
          refine ⟨k + 1, by omega, rfl, by go_num, HX.out.1, ?_⟩
          rw [HTF.out]
          simpa using HX.out.2
      | true =>
        have hcl : ((l.take k).filter (·.kept)).length ≤ 1000000 := Nat.le_trans (List.length_filter_le _ _) (by rw [List.length_take]; omega)
        obtain ⟨acc, hacc⟩ : ∃ acc, (l.take k).filter (·.kept) = acc := ⟨_, rfl⟩
        rw [hacc] at htf hcl HX ⊢
        have HTF := Lib.hid (And.intro htf hcl)
        clear htf hcl hacc
        go_wp2_with fail
        refine HT.out.mono ?_
        rintro r w2 ⟨⟨A, c, rfl, hgr⟩, hb2⟩
        obtain ⟨es, hes, hsq, hgs⟩ := HX.out.2.below hb2
        have hbw := HX.out.1.trans (hb2.mono HX.out.1.size)
        have HG := Lib.hid (And.intro hbw (And.intro hes (And.intro hsq (And.intro hgs (hgr.lower HX.out.1.size)))))
        obtain ⟨i0, hi, hz0, hz1, hz2⟩ := info_parts entInfo
        clear hgr hb2 hes hsq hgs hbw y0 y1 y2 y3 y4 y5 y6 y7 HT
        go_wp2_with (at_builtin; refine wpList_append_seq _ rfl _ _ 49 rfl w.heap.size 54 i0 (.agg #[.string ⟨#[]⟩, .bool false, .string ⟨#[]⟩, .slice none 0 0, .int .i64 0, .int .u64 0, .int .i64 0, .int .u64 0]) 8 96 Tryz.underlying49 hi hz0 hz1 hz2 rfl _ acc.length (flatE es) rfl (HG.out.2.2.1.alloc _) ⟨w2.heap.size, 0, none⟩ 1 1 [.string contact, .bool true, .string name, .slice A groups.length c, .int .i64 o, .int .u64 n, .int .i64 i, .int .u64 m] rfl rfl ?c1 ?c2 (by decide) (by have := HTF.out.2; unfold maxLen; omega) (by have := HTF.out.2; omega) (by have := HG.out.1.size; simp; omega) ?_)
        case c1 => intro j u hu; match j, hu with | 0, hu => simpa [go_sem, Addr.add] using hu | 1, hu => simpa [go_sem, Addr.add] using hu | 2, hu => simpa [go_sem, Addr.add] using hu | 3, hu => simpa [go_sem, Addr.add] using hu | 4, hu => simpa [go_sem, Addr.add] using hu | 5, hu => simpa [go_sem, Addr.add] using hu | 6, hu => simpa [go_sem, Addr.add] using hu | 7, hu => simpa [go_sem, Addr.add] using hu
        case c2 => intro u hu; simp at hu; rcases hu with rfl | rfl | rfl | rfl | rfl | rfl | rfl | rfl <;> rfl
        intro v' w3 hs3 hg3 _
        have hb3 : Below w.heap.size w w3 := (HG.out.1.alloc HG.out.1.size _).grown hg3 (by have := HG.out.1.size; simp; omega) (fun j hj => (HG.out.2.2.1.lt j hj).1)
        have hal : Below w2.heap.size w2 (w2.alloc (.cells #[.string contact, .bool true, .string name, .slice A groups.length c, .int .i64 o, .int .u64 n, .int .i64 i, .int .u64 m] 54)) := (Below.refl _ _).alloc (Nat.le_refl _) _
        have hent3 := Ents.pushed (e := ⟨contact, true, name, groups, ⟨o, n, i, m⟩⟩) HG.out.2.1 (HG.out.2.2.1.alloc _) (fun p hp => (HG.out.2.2.2.1 p hp).below hal) (HG.out.2.2.2.2.below hal) hs3 hg3
        have H3 := Lib.hid (And.intro hb3 hent3)
        clear hb3 hent3 hs3 hg3 hal HG
        go_wp2_with fail
        go_roundg (l.length - (k + 1))
        case measure => have := HK.out.2; omega
        case rel =>
          refine ⟨k + 1, by omega, rfl, by go_num, H3.out.1, ?_⟩
          rw [HTF.out.1]
          simpa using H3.out.2
    · obtain rfl : k = l.length := by omega
      have t1 : ¬ ((l.length : Nat) : Int) < (l.length : Int) := by omega
      rw [List.take_length] at HX ⊢
      clear hbx hents
      go_wp2_with fail
      go_ret
      exact ⟨_, _, rfl, HX.out.2, HX.out.1⟩

set_option maxRecDepth 100000 in
set_option maxHeartbeats 8000000 in
theorem q16with_out {w : World} {B qb : Nat} {X : Nat → Prop} {R : RS} (h : QAt w B X qb R) (hn : R.rows.length ≤ 1000000) (st : Int) :
    Calls Tryz.prog 80 #[.pointer (some ⟨qb, 0, none⟩), .bool true, .int .i64 st] w fun r w' => (∃ A c, r = .returned (.slice A (R.withs fun h => h.o == st).length c) ∧ Seq w' w.heap.size 9 1 (.slice A (R.withs fun h => h.o == st).length c) (R.withs fun h => h.o == st).length (flatS (R.withs fun h => h.o == st))) ∧ Below w.heap.size w w' := by
  obtain ⟨A0, c0, hq, hE⟩ := h.open
  have c4 : w.cell? ⟨qb, 4, none⟩ = some (.slice A0 R.rows.length c0) := blk_cell hq 4
  have hqb := h.lt
  rw [RS.withs_eq]
  obtain ⟨l, hl⟩ : ∃ l, R.rows = l := ⟨_, rfl⟩
  rw [hl] at hE hn c4 ⊢
  obtain ⟨p, hp⟩ : ∃ p : Ent → Bool, (fun e => e.half.o == st) = p := ⟨_, rfl⟩
  rw [hp]
  have HPP := Lib.hid hp
  have HE := Lib.hid hE
  have HN := Lib.hid hn
  have HC4 := Lib.hid c4
  clear h hq hE hn hl c4 hp
  go_enter Tryz.func80, Tryz.ntmps80
  go_wp2_with fail
  go_loopg [7, 8] l.length (fun g s7 s8 wx => ∃ k : Nat, k ≤ l.length ∧ g = l.length - k ∧ s8 = .int .i64 k ∧ Below w.heap.size w wx ∧ Seq wx w.heap.size 9 1 s7 (((l.take k).filter p).map (·.contact)).length (flatS (((l.take k).filter p).map (·.contact))))
  case atStart => exact ⟨0, Nat.zero_le _, rfl, rfl, Below.refl _ _, Seq.nil _ _ _ _⟩
  case round =>
    obtain ⟨k, hk, hgk, rfl, hbx, hsq⟩ := hrel
    obtain ⟨SA, sc, rfl⟩ := hsq.shape
    have t0 : (0 : Int) ≤ (k : Int) := by omega
    have c4 : wr.cell? ⟨qb, 4, none⟩ = some (.slice A0 l.length c0) := (hbx.cell hqb).trans HC4.out
    have hqr : qb < wr.heap.size := Nat.lt_of_lt_of_le hqb hbx.size
    have hnl := HN.out
    have HX := Lib.hid (And.intro hbx hsq)
    have HK := Lib.hid (And.intro hk hgk)
    clear hgk
    by_cases hlt : k < l.length
    · have t1 : (k : Int) < (l.length : Int) := by omega
      have hw : IntKind.i64.wrap ((k : Int) + 1) = (k : Int) + 1 := IntWalk.i64_in _ (by omega)
      obtain ⟨e, he⟩ : ∃ e, l[k]? = some e := ⟨_, List.getElem?_eq_getElem hlt⟩
      have htf := take_filter p he
      have hpe : p e = (e.half.o == st) := by rw [← HPP.out]
      obtain ⟨b, off, g, rfl, hb, hgx, hcell⟩ := (HE.out.below hbx).get he
      obtain ⟨GA, gcap, rfl⟩ := hgx.shape
      obtain ⟨contact, kept, name, groups, ⟨o, n, i, m⟩⟩ := e
      have y0 : wr.cell? ⟨b, off + k * 8, none⟩ = some (.string contact) := hcell 0 (by decide)
      have y1 : wr.cell? ⟨b, off + k * 8 + 1, none⟩ = some (.bool kept) := hcell 1 (by decide)
      have y2 : wr.cell? ⟨b, off + k * 8 + 2, none⟩ = some (.string name) := hcell 2 (by decide)
      have y3 : wr.cell? ⟨b, off + k * 8 + 3, none⟩ = some (.slice GA groups.length gcap) := hcell 3 (by decide)
      have y4 : wr.cell? ⟨b, off + k * 8 + 4, none⟩ = some (.int .i64 o) := hcell 4 (by decide)
      have y5 : wr.cell? ⟨b, off + k * 8 + 5, none⟩ = some (.int .u64 n) := hcell 5 (by decide)
      have y6 : wr.cell? ⟨b, off + k * 8 + 6, none⟩ = some (.int .i64 i) := hcell 6 (by decide)
      have y7 : wr.cell? ⟨b, off + k * 8 + 7, none⟩ = some (.int .u64 m) := hcell 7 (by decide)
      have hcl : (((l.take k).filter p).map (·.contact)).length ≤ 1000000 := by rw [List.length_map]; exact Nat.le_trans (List.length_filter_le _ _) (by rw [List.length_take]; omega)
      obtain ⟨acc, hacc⟩ : ∃ acc, ((l.take k).filter p).map (·.contact) = acc := ⟨_, rfl⟩
      have htf2 : ((l.take (k + 1)).filter p).map (·.contact) = acc ++ if p ⟨contact, kept, name, groups, ⟨o, n, i, m⟩⟩ = true then [contact] else [] := by
        rw [htf, List.map_append, hacc]
        cases p ⟨contact, kept, name, groups, ⟨o, n, i, m⟩⟩ <;> rfl
      rw [hacc] at hcl HX ⊢
      rw [hpe] at htf2
      simp only at htf2
      clear hbx hsq hk hcell hgx he hlt htf hacc hpe
      cases hst : (o == st) with
      | false =>
        rw [hst] at htf2
        have HTF := Lib.hid htf2
        clear htf2
        go_wp2_with fail
        go_roundg (l.length - (k + 1))
        case measure => have := HK.out.2; omega
        case rel =>
          refine ⟨k + 1, by omega, rfl, by go_num, HX.out.1.alloc HX.out.1.size _, ?_⟩
          rw [HTF.out]
          simpa using HX.out.2.alloc _
      | true =>
        rw [hst] at htf2
        have HTF := Lib.hid (And.intro htf2 hcl)
        have hsa := HX.out.2.alloc (.cells #[.int .i64 o, .int .u64 n, .int .i64 i, .int .u64 m] 52)
        have hba : Below w.heap.size w (wr.alloc (.cells #[.int .i64 o, .int .u64 n, .int .i64 i, .int .u64 m] 52)) := HX.out.1.alloc HX.out.1.size _
        have HG := Lib.hid (And.intro hba hsa)
        obtain ⟨i0, hi, hz0, hz1, hz2⟩ := info_parts strInfo
        clear htf2 hcl hsa hba
        go_wp2_with (at_builtin; refine wpList_append_seq _ rfl _ _ 32 rfl w.heap.size 9 i0 (.string ⟨#[]⟩) 1 16 Tryz.underlying32 hi hz0 hz1 hz2 rfl _ acc.length (flatS acc) rfl (HG.out.2.alloc _) ⟨wr.heap.size + 1, 0, none⟩ 1 1 [.string contact] rfl rfl ?c1 ?c2 (by decide) (by have := HTF.out.2; unfold maxLen; omega) (by have := HTF.out.2; omega) (by have := HG.out.1.size; simp at this ⊢; omega) ?_)
        try (case c1 => intro j u hu; match j, hu with | 0, hu => simpa [go_sem, Addr.add] using hu)
        case c2 => first | rfl | (intro u hu; simp at hu; subst hu; rfl)
        intro v' w3 hs3 hg3 _
        have hb3 : Below w.heap.size w w3 := (HG.out.1.alloc HG.out.1.size _).grown hg3 (by have := HG.out.1.size; simp at this ⊢; omega) (fun j hj => (HG.out.2.lt j hj).1)
        have hs4 : Seq w3 w.heap.size 9 1 v' (acc ++ [contact]).length (flatS (acc ++ [contact])) := by
          rw [List.length_append, flatS_app]
          exact hs3
        have H3 := Lib.hid (And.intro hb3 hs4)
        clear hb3 hs4 hs3 hg3 HG
        go_wp2_with fail
        go_roundg (l.length - (k + 1))
        case measure => have := HK.out.2; omega
        case rel =>
          refine ⟨k + 1, by omega, rfl, by go_num, H3.out.1, ?_⟩
          rw [HTF.out.1]
          exact H3.out.2
    · obtain rfl : k = l.length := by omega
      have t1 : ¬ ((l.length : Nat) : Int) < (l.length : Int) := by omega
      rw [List.take_length] at HX ⊢
      clear hbx hsq
      go_wp2_with fail
      go_ret
      exact ⟨⟨SA, sc, by simp, by simpa using HX.out.2⟩, HX.out.1⟩

set_option maxRecDepth 100000 in
set_option maxHeartbeats 8000000 in
theorem q16with_in {w : World} {B qb : Nat} {X : Nat → Prop} {R : RS} (h : QAt w B X qb R) (hn : R.rows.length ≤ 1000000) (st : Int) :
    Calls Tryz.prog 80 #[.pointer (some ⟨qb, 0, none⟩), .bool false, .int .i64 st] w fun r w' => (∃ A c, r = .returned (.slice A (R.withs fun h => h.i == st).length c) ∧ Seq w' w.heap.size 9 1 (.slice A (R.withs fun h => h.i == st).length c) (R.withs fun h => h.i == st).length (flatS (R.withs fun h => h.i == st))) ∧ Below w.heap.size w w' := by
  obtain ⟨A0, c0, hq, hE⟩ := h.open
  have c4 : w.cell? ⟨qb, 4, none⟩ = some (.slice A0 R.rows.length c0) := blk_cell hq 4
  have hqb := h.lt
  rw [RS.withs_eq]
  obtain ⟨l, hl⟩ : ∃ l, R.rows = l := ⟨_, rfl⟩
  rw [hl] at hE hn c4 ⊢
  obtain ⟨p, hp⟩ : ∃ p : Ent → Bool, (fun e => e.half.i == st) = p := ⟨_, rfl⟩
  rw [hp]
  have HPP := Lib.hid hp
  have HE := Lib.hid hE
  have HN := Lib.hid hn
  have HC4 := Lib.hid c4
  clear h hq hE hn hl c4 hp
  go_enter Tryz.func80, Tryz.ntmps80
  go_wp2_with fail
  go_loopg [7, 8] l.length (fun g s7 s8 wx => ∃ k : Nat, k ≤ l.length ∧ g = l.length - k ∧ s8 = .int .i64 k ∧ Below w.heap.size w wx ∧ Seq wx w.heap.size 9 1 s7 (((l.take k).filter p).map (·.contact)).length (flatS (((l.take k).filter p).map (·.contact))))
  case atStart => exact ⟨0, Nat.zero_le _, rfl, rfl, Below.refl _ _, Seq.nil _ _ _ _⟩
  case round =>
    obtain ⟨k, hk, hgk, rfl, hbx, hsq⟩ := hrel
    obtain ⟨SA, sc, rfl⟩ := hsq.shape
    have t0 : (0 : Int) ≤ (k : Int) := by omega
    have c4 : wr.cell? ⟨qb, 4, none⟩ = some (.slice A0 l.length c0) := (hbx.cell hqb).trans HC4.out
    have hqr : qb < wr.heap.size := Nat.lt_of_lt_of_le hqb hbx.size
    have hnl := HN.out
    have HX := Lib.hid (And.intro hbx hsq)
    have HK := Lib.hid (And.intro hk hgk)
    clear hgk
    by_cases hlt : k < l.length
    · have t1 : (k : Int) < (l.length : Int) := by omega
      have hw : IntKind.i64.wrap ((k : Int) + 1) = (k : Int) + 1 := IntWalk.i64_in _ (by omega)
      obtain ⟨e, he⟩ : ∃ e, l[k]? = some e := ⟨_, List.getElem?_eq_getElem hlt⟩
      have htf := take_filter p he
      have hpe : p e = (e.half.i == st) := by rw [← HPP.out]
      obtain ⟨b, off, g, rfl, hb, hgx, hcell⟩ := (HE.out.below hbx).get he
      obtain ⟨GA, gcap, rfl⟩ := hgx.shape
      obtain ⟨contact, kept, name, groups, ⟨o, n, i, m⟩⟩ := e
      have y0 : wr.cell? ⟨b, off + k * 8, none⟩ = some (.string contact) := hcell 0 (by decide)
      have y1 : wr.cell? ⟨b, off + k * 8 + 1, none⟩ = some (.bool kept) := hcell 1 (by decide)
      have y2 : wr.cell? ⟨b, off + k * 8 + 2, none⟩ = some (.string name) := hcell 2 (by decide)
      have y3 : wr.cell? ⟨b, off + k * 8 + 3, none⟩ = some (.slice GA groups.length gcap) := hcell 3 (by decide)
      have y4 : wr.cell? ⟨b, off + k * 8 + 4, none⟩ = some (.int .i64 o) := hcell 4 (by decide)
      have y5 : wr.cell? ⟨b, off + k * 8 + 5, none⟩ = some (.int .u64 n) := hcell 5 (by decide)
      have y6 : wr.cell? ⟨b, off + k * 8 + 6, none⟩ = some (.int .i64 i) := hcell 6 (by decide)
      have y7 : wr.cell? ⟨b, off + k * 8 + 7, none⟩ = some (.int .u64 m) := hcell 7 (by decide)
      have hcl : (((l.take k).filter p).map (·.contact)).length ≤ 1000000 := by rw [List.length_map]; exact Nat.le_trans (List.length_filter_le _ _) (by rw [List.length_take]; omega)
      obtain ⟨acc, hacc⟩ : ∃ acc, ((l.take k).filter p).map (·.contact) = acc := ⟨_, rfl⟩
      have htf2 : ((l.take (k + 1)).filter p).map (·.contact) = acc ++ if p ⟨contact, kept, name, groups, ⟨o, n, i, m⟩⟩ = true then [contact] else [] := by
        rw [htf, List.map_append, hacc]
        cases p ⟨contact, kept, name, groups, ⟨o, n, i, m⟩⟩ <;> rfl
      rw [hacc] at hcl HX ⊢
      rw [hpe] at htf2
      simp only at htf2
      clear hbx hsq hk hcell hgx he hlt htf hacc hpe
      cases hst : (i == st) with
      | false =>
        rw [hst] at htf2
        have HTF := Lib.hid htf2
        clear htf2
        go_wp2_with fail
        go_roundg (l.length - (k + 1))
        case measure => have := HK.out.2; omega
        case rel =>
          refine ⟨k + 1, by omega, rfl, by go_num, HX.out.1.alloc HX.out.1.size _, ?_⟩
          rw [HTF.out]
          simpa using HX.out.2.alloc _
      | true =>
        rw [hst] at htf2
        have HTF := Lib.hid (And.intro htf2 hcl)
        have hsa := HX.out.2.alloc (.cells #[.int .i64 o, .int .u64 n, .int .i64 i, .int .u64 m] 52)
        have hba : Below w.heap.size w (wr.alloc (.cells #[.int .i64 o, .int .u64 n, .int .i64 i, .int .u64 m] 52)) := HX.out.1.alloc HX.out.1.size _
        have HG := Lib.hid (And.intro hba hsa)
        obtain ⟨i0, hi, hz0, hz1, hz2⟩ := info_parts strInfo
        clear htf2 hcl hsa hba
        go_wp2_with (at_builtin; refine wpList_append_seq _ rfl _ _ 32 rfl w.heap.size 9 i0 (.string ⟨#[]⟩) 1 16 Tryz.underlying32 hi hz0 hz1 hz2 rfl _ acc.length (flatS acc) rfl (HG.out.2.alloc _) ⟨wr.heap.size + 1, 0, none⟩ 1 1 [.string contact] rfl rfl ?c1 ?c2 (by decide) (by have := HTF.out.2; unfold maxLen; omega) (by have := HTF.out.2; omega) (by have := HG.out.1.size; simp at this ⊢; omega) ?_)
        try (case c1 => intro j u hu; match j, hu with | 0, hu => simpa [go_sem, Addr.add] using hu)
        case c2 => first | rfl | (intro u hu; simp at hu; subst hu; rfl)
        intro v' w3 hs3 hg3 _
        have hb3 : Below w.heap.size w w3 := (HG.out.1.alloc HG.out.1.size _).grown hg3 (by have := HG.out.1.size; simp at this ⊢; omega) (fun j hj => (HG.out.2.lt j hj).1)
        have hs4 : Seq w3 w.heap.size 9 1 v' (acc ++ [contact]).length (flatS (acc ++ [contact])) := by
          rw [List.length_append, flatS_app]
          exact hs3
        have H3 := Lib.hid (And.intro hb3 hs4)
        clear hb3 hs4 hs3 hg3 HG
        go_wp2_with fail
        go_roundg (l.length - (k + 1))
        case measure => have := HK.out.2; omega
        case rel =>
          refine ⟨k + 1, by omega, rfl, by go_num, H3.out.1, ?_⟩
          rw [HTF.out.1]
          exact H3.out.2
    · obtain rfl : k = l.length := by omega
      have t1 : ¬ ((l.length : Nat) : Int) < (l.length : Int) := by omega
      rw [List.take_length] at HX ⊢
      clear hbx hsq
      go_wp2_with fail
      go_ret
      exact ⟨⟨SA, sc, by simp, by simpa using HX.out.2⟩, HX.out.1⟩

end Go.Proofs.YthbjcihdlhkboaaGreatDoor

namespace Go.Proofs.YthbjcihdlhkboaaGreatDoor
set_option linter.unusedSimpArgs false
set_option linter.unusedVariables false
open Go.RowKit Go.Maps Go.Shelf Go.Lib

/-- What a closure over halves answers. -/
def AsksH (w : World) (F : Nat) (p : Half → Bool) : Prop := ∀ W, Below w.heap.size w W → ∀ h : Half, Calls Tryz.prog F #[h.val] W fun r w' => r = .returned (.bool (p h)) ∧ Below W.heap.size W w'

set_option maxHeartbeats 2000000 in
theorem contacts1_any (w : World) (b F0 : Nat) (p : Half → Bool) (hb : w.heap[b]? = some (.cells #[.func (.func F0) #[] #[]] 168)) (hE : ∀ args w, (callFunc F0 args).run Tryz.prog w = .ok (.enter F0 args) w) (hF : AsksH w F0 p) :
    Asks w 156 #[.pointer (some ⟨b, 0, none⟩)] (fun e => p e.half) := by
  intro W hW e g hg
  obtain ⟨contact, kept, name, groups, ⟨o, hn, i, m⟩⟩ := e
  obtain ⟨A, c, rfl⟩ : ∃ A c, g = .slice A groups.length c := let ⟨⟨A, cap, h, _⟩, _⟩ := hg; ⟨A, cap, h⟩
  obtain ⟨o8, ho8⟩ : ∃ o8 : Obj, (.cells #[.string contact, .bool kept, .string name, .slice A groups.length c, .int .i64 o, .int .u64 hn, .int .i64 i, .int .u64 m] 54) = o8 := ⟨_, rfl⟩
  have hW8 : Below w.heap.size w (W.alloc o8) := hW.alloc hW.size _
  have C := hF (W.alloc o8) hW8 ⟨o, hn, i, m⟩
  have hbx : (W.alloc o8).heap[b]? = some (.cells #[.func (.func F0) #[] #[]] 168) := blk_below hb hW8 (blk_lt hb)
  rw [← ho8] at C hbx
  have y0 : (W.alloc (.cells #[.string contact, .bool kept, .string name, .slice A groups.length c, .int .i64 o, .int .u64 hn, .int .i64 i, .int .u64 m] 54)).cell? ⟨b, 0, none⟩ = some (.func (.func F0) #[] #[]) := blk_cell hbx 0
  have hbl : b < W.heap.size := Nat.lt_of_lt_of_le (blk_lt hb) hW.size
  have HC := Lib.hid C
  clear hg C hbx hW8 ho8 hF hb hW
  show Calls Tryz.prog 156 #[_, _] W _
  go_enter Tryz.func156, Tryz.ntmps156
  go_wp2_with fail
  refine HC.out.mono ?_
  rintro r w1 ⟨rfl, hb1⟩
  have HB := Lib.hid hb1
  clear hb1
  go_wp2_with fail
  go_ret
  exact ⟨rfl, ((Below.refl _ _).alloc (Nat.le_refl _) _).trans (HB.out.mono (by simp))⟩

set_option maxRecDepth 100000 in
set_option maxHeartbeats 8000000 in
theorem contacts_any {w : World} {B rb mb n : Nat} {D : DataW Value} {R : RS} {kc : Int} (h : RoAtK w B rb mb n D R kc) (hl : R.list.length ≤ 1000000) (hks : ∀ s, (R.get s).isSome = true → s.size ≤ maxLen) (F0 : Nat) (p : Half → Bool)
    (hE : ∀ args w, (callFunc F0 args).run Tryz.prog w = .ok (.enter F0 args) w) (hF : AsksH w F0 p) :
    Calls Tryz.prog 124 #[.pointer (some ⟨rb, 0, none⟩), .func (.func F0) #[] #[]] w fun r w' => (∃ A c, r = .returned (.slice A (R.withs p).length c) ∧ Seq w' w.heap.size 9 1 (.slice A (R.withs p).length c) (R.withs p).length (flatS (R.withs p))) ∧ Below w.heap.size w w' := by
  have hbA : Below w.heap.size w (w.alloc (.cells #[.func (.func F0) #[] #[]] 168)) := (Below.refl _ _).alloc (Nat.le_refl _) _
  have C := all_any (h.below hbA) hl hks 156 #[.pointer (some ⟨w.heap.size, 0, none⟩)] (fun e => p e.half) (enters_of Tryz.func156 (by kernel_rfl) rfl)
    (contacts1_any _ w.heap.size F0 p (blk_new _ _) hE (fun W hW h => hF W (hbA.trans (hW.mono (by simp))) h))
  have hlen : (R.all fun e => p e.half).length ≤ 1000000 := by
    rw [RS.all_length h.apart]
    exact Nat.le_trans (List.length_filter_le _ _) hl
  unfold RS.withs
  obtain ⟨l, hll⟩ : ∃ l, (R.all fun e => p e.half) = l := ⟨_, rfl⟩
  rw [hll] at C hlen ⊢
  have HC := Lib.hid C
  have HN := Lib.hid hlen
  have HA := Lib.hid hbA
  have hmf : ∀ (fn : Fn) (first cap : Array Value) (w : World), (Instr.makeFunc fn first cap).run Tryz.prog w = .ok (.func fn first cap) w := fun _ _ _ _ => rfl
  clear h hl hks hE hF C hlen hll hbA
  go_enter Tryz.func124, Tryz.ntmps124
  go_wp2_with fail
  refine HC.out.mono ?_
  rintro r w1 ⟨A0, c0, rfl, hE, hb1⟩
  have H1 := Lib.hid (And.intro (HA.out.trans (hb1.mono (by simp))) hE)
  clear hb1 hE HC
  go_wp2_with fail
  go_loopg [5, 12] l.length (fun g s5 s12 wx => ∃ k : Nat, k ≤ l.length ∧ g = l.length - k ∧ s12 = .int .i64 k ∧ Below w1.heap.size w1 wx ∧ Seq wx w1.heap.size 9 1 s5 k (flatS ((l.take k).map (·.contact))))
  case atStart => exact ⟨0, Nat.zero_le _, rfl, rfl, Below.refl _ _, Seq.nil _ _ _ _⟩
  case round =>
    obtain ⟨k, hk, hgk, rfl, hb1x, hsq⟩ := hrel
    obtain ⟨SA, sc, rfl⟩ := hsq.shape
    have t0 : (0 : Int) ≤ (k : Int) := by omega
    have hnl := HN.out
    have HX := Lib.hid (And.intro hb1x hsq)
    have HK := Lib.hid (And.intro hk hgk)
    clear hgk hsq
    by_cases hlt : k < l.length
    · have t1 : (k : Int) < (l.length : Int) := by omega
      have hw : IntKind.i64.wrap ((k : Int) + 1) = (k : Int) + 1 := IntWalk.i64_in _ (by omega)
      obtain ⟨e, he⟩ : ∃ e, l[k]? = some e := ⟨_, List.getElem?_eq_getElem hlt⟩
      have htk : (l.take (k + 1)).map (·.contact) = (l.take k).map (·.contact) ++ [e.contact] := by
        obtain ⟨_, rfl⟩ := List.getElem?_eq_some_iff.1 he
        rw [List.take_succ_eq_append_getElem hlt, List.map_append]; rfl
      obtain ⟨b, off, g, rfl, hb, hgx, hcell⟩ := ((H1.out.2.av (X := fun _ => False) (fun _ h => h.elim)).below hb1x).get he
      obtain ⟨GA, gcap, rfl⟩ := hgx.shape
      obtain ⟨contact, kept, name, groups, ⟨o, n, i, m⟩⟩ := e
      have y0 : wr.cell? ⟨b, off + k * 8, none⟩ = some (.string contact) := hcell 0 (by decide)
      have y1 : wr.cell? ⟨b, off + k * 8 + 1, none⟩ = some (.bool kept) := hcell 1 (by decide)
      have y2 : wr.cell? ⟨b, off + k * 8 + 2, none⟩ = some (.string name) := hcell 2 (by decide)
      have y3 : wr.cell? ⟨b, off + k * 8 + 3, none⟩ = some (.slice GA groups.length gcap) := hcell 3 (by decide)
      have y4 : wr.cell? ⟨b, off + k * 8 + 4, none⟩ = some (.int .i64 o) := hcell 4 (by decide)
      have y5 : wr.cell? ⟨b, off + k * 8 + 5, none⟩ = some (.int .u64 n) := hcell 5 (by decide)
      have y6 : wr.cell? ⟨b, off + k * 8 + 6, none⟩ = some (.int .i64 i) := hcell 6 (by decide)
      have y7 : wr.cell? ⟨b, off + k * 8 + 7, none⟩ = some (.int .u64 m) := hcell 7 (by decide)
      obtain ⟨acc, hacc⟩ : ∃ acc, (l.take k).map (·.contact) = acc := ⟨_, rfl⟩
      rw [hacc] at htk HX
      have HTK := Lib.hid htk
      obtain ⟨o8, ho8⟩ : ∃ o8 : Obj, (.cells #[.string contact, .bool kept, .string name, .slice GA groups.length gcap, .int .i64 o, .int .u64 n, .int .i64 i, .int .u64 m] 54) = o8 := ⟨_, rfl⟩
      have hba := HX.out.1.alloc HX.out.1.size o8
      have hsa := HX.out.2.alloc o8
      rw [← ho8] at hba hsa
      have HG := Lib.hid (And.intro hba hsa)
      obtain ⟨i0, hi, hz0, hz1, hz2⟩ := info_parts strInfo
      clear htk hacc hba hsa ho8 o8 hcell hgx he hb1x hlt hk
      go_wp2_with (at_builtin; refine wpList_append_seq _ rfl _ _ 32 rfl w1.heap.size 9 i0 (.string ⟨#[]⟩) 1 16 Tryz.underlying32 hi hz0 hz1 hz2 rfl _ k (flatS acc) rfl (HG.out.2.alloc _) ⟨wr.heap.size + 1, 0, none⟩ 1 1 [.string contact] rfl rfl ?c1 ?c2 (by decide) (by unfold maxLen; omega) (by omega) (by have := HG.out.1.size; simp at this ⊢; omega) ?_)
      try (case c1 => intro j u hu; match j, hu with | 0, hu => simpa [go_sem, Addr.add] using hu)
      case c2 => first | rfl | (intro u hu; simp at hu; subst hu; rfl)
      intro v' w3 hs3 hg3 _
      have hb3 : Below w1.heap.size w1 w3 := (HG.out.1.alloc HG.out.1.size _).grown hg3 (by have := HG.out.1.size; simp at this ⊢; omega) (fun j hj => (HG.out.2.lt j hj).1)
      have H3 := Lib.hid (And.intro hb3 hs3)
      clear hb3 hs3 hg3 HG
      go_wp2_with fail
      go_roundg (l.length - (k + 1))
      case measure => have := HK.out.2; omega
      case rel =>
        refine ⟨k + 1, by omega, rfl, by go_num, H3.out.1, ?_⟩
        rw [HTK.out, flatS_app]
        exact H3.out.2
    · obtain rfl : k = l.length := by omega
      have t1 : ¬ ((l.length : Nat) : Int) < (l.length : Int) := by omega
      try rw [List.take_length] at HX
      try rw [List.length_map]
      clear hb1x
      go_wp2_with fail
      go_ret
      exact ⟨⟨SA, sc, by simp, by simpa using HX.out.2.lower H1.out.1.size⟩, H1.out.1.trans (HX.out.1.mono H1.out.1.size)⟩

set_option maxHeartbeats 1000000 in
theorem waiting1_any (w : World) : AsksH w 125 (fun h => h.i == 1) := by
  intro W hW h
  obtain ⟨o, hn, i, m⟩ := h
  go_enter Tryz.func125, Tryz.ntmps125
  go_wp2_with fail
  go_ret
  exact ⟨rfl, (Below.refl _ _).alloc (Nat.le_refl _) _⟩

set_option maxHeartbeats 1000000 in
theorem waiting_any {w : World} {B rb mb n : Nat} {D : DataW Value} {R : RS} {kc : Int} (h : RoAtK w B rb mb n D R kc) (hl : R.list.length ≤ 1000000) (hks : ∀ s, (R.get s).isSome = true → s.size ≤ maxLen) :
    Calls Tryz.prog 79 #[.pointer (some ⟨rb, 0, none⟩)] w fun r w' => (∃ A c, r = .returned (.slice A (R.withs fun h => h.i == 1).length c) ∧ Seq w' w.heap.size 9 1 (.slice A (R.withs fun h => h.i == 1).length c) (R.withs fun h => h.i == 1).length (flatS (R.withs fun h => h.i == 1))) ∧ Below w.heap.size w w' := by
  have C := Lib.hid (contacts_any h hl hks 125 (fun h => h.i == 1) (enters_of Tryz.func125 (by kernel_rfl) rfl) (waiting1_any w))
  clear h hl hks
  go_enter Tryz.func79, Tryz.ntmps79
  go_wp2_with fail
  refine C.out.mono ?_
  rintro e w1 ⟨⟨A, c, rfl, hs⟩, hb⟩
  have HE := Lib.hid (And.intro hs hb)
  clear hs hb
  go_wp2_with fail
  go_ret
  exact ⟨⟨_, _, rfl, HE.out.1⟩, HE.out.2⟩

set_option maxHeartbeats 1000000 in
theorem seeing1_any (w : World) : AsksH w 126 (fun h => h.i == 2) := by
  intro W hW h
  obtain ⟨o, hn, i, m⟩ := h
  go_enter Tryz.func126, Tryz.ntmps126
  go_wp2_with fail
  go_ret
  exact ⟨rfl, (Below.refl _ _).alloc (Nat.le_refl _) _⟩

set_option maxHeartbeats 1000000 in
theorem seeing_any {w : World} {B rb mb n : Nat} {D : DataW Value} {R : RS} {kc : Int} (h : RoAtK w B rb mb n D R kc) (hl : R.list.length ≤ 1000000) (hks : ∀ s, (R.get s).isSome = true → s.size ≤ maxLen) :
    Calls Tryz.prog 81 #[.pointer (some ⟨rb, 0, none⟩)] w fun r w' => (∃ A c, r = .returned (.slice A (R.withs fun h => h.i == 2).length c) ∧ Seq w' w.heap.size 9 1 (.slice A (R.withs fun h => h.i == 2).length c) (R.withs fun h => h.i == 2).length (flatS (R.withs fun h => h.i == 2))) ∧ Below w.heap.size w w' := by
  have C := Lib.hid (contacts_any h hl hks 126 (fun h => h.i == 2) (enters_of Tryz.func126 (by kernel_rfl) rfl) (seeing1_any w))
  clear h hl hks
  go_enter Tryz.func81, Tryz.ntmps81
  go_wp2_with fail
  refine C.out.mono ?_
  rintro e w1 ⟨⟨A, c, rfl, hs⟩, hb⟩
  have HE := Lib.hid (And.intro hs hb)
  clear hs hb
  go_wp2_with fail
  go_ret
  exact ⟨⟨_, _, rfl, HE.out.1⟩, HE.out.2⟩

set_option maxHeartbeats 1000000 in
theorem seen1_any (w : World) : AsksH w 127 (fun h => h.o == 2) := by
  intro W hW h
  obtain ⟨o, hn, i, m⟩ := h
  go_enter Tryz.func127, Tryz.ntmps127
  go_wp2_with fail
  go_ret
  exact ⟨rfl, (Below.refl _ _).alloc (Nat.le_refl _) _⟩

set_option maxHeartbeats 1000000 in
theorem seen_any {w : World} {B rb mb n : Nat} {D : DataW Value} {R : RS} {kc : Int} (h : RoAtK w B rb mb n D R kc) (hl : R.list.length ≤ 1000000) (hks : ∀ s, (R.get s).isSome = true → s.size ≤ maxLen) :
    Calls Tryz.prog 82 #[.pointer (some ⟨rb, 0, none⟩)] w fun r w' => (∃ A c, r = .returned (.slice A (R.withs fun h => h.o == 2).length c) ∧ Seq w' w.heap.size 9 1 (.slice A (R.withs fun h => h.o == 2).length c) (R.withs fun h => h.o == 2).length (flatS (R.withs fun h => h.o == 2))) ∧ Below w.heap.size w w' := by
  have C := Lib.hid (contacts_any h hl hks 127 (fun h => h.o == 2) (enters_of Tryz.func127 (by kernel_rfl) rfl) (seen1_any w))
  clear h hl hks
  go_enter Tryz.func82, Tryz.ntmps82
  go_wp2_with fail
  refine C.out.mono ?_
  rintro e w1 ⟨⟨A, c, rfl, hs⟩, hb⟩
  have HE := Lib.hid (And.intro hs hb)
  clear hs hb
  go_wp2_with fail
  go_ret
  exact ⟨⟨_, _, rfl, HE.out.1⟩, HE.out.2⟩

end Go.Proofs.YthbjcihdlhkboaaGreatDoor

namespace Go.Proofs.YthbjcihdlhkboaaGreatDoor
set_option linter.unusedSimpArgs false
set_option linter.unusedVariables false
open Go.RowKit Go.Maps Go.Shelf Go.Lib

theorem fold_idem (r : Int) : fold (fold r) = fold r := by
  by_cases h : (65 ≤ r ∧ r ≤ 90) ∨ (192 ≤ r ∧ r ≤ 222 ∧ ¬ r = 215) ∨ (913 ≤ r ∧ r ≤ 937 ∧ ¬ r = 930) ∨ (1040 ≤ r ∧ r ≤ 1071)
  · rw [fold_yes r h]; exact fold_no _ (by omega)
  · rw [fold_no r h, fold_no r h]
theorem enc_fold (d : Nat) : (Lib.encodeRune (fold (d : Int))).length = (Lib.encodeRune (d : Int)).length := by
  by_cases h : (65 ≤ (d : Int) ∧ (d : Int) ≤ 90) ∨ (192 ≤ (d : Int) ∧ (d : Int) ≤ 222 ∧ ¬ (d : Int) = 215) ∨ (913 ≤ (d : Int) ∧ (d : Int) ≤ 937 ∧ ¬ (d : Int) = 930) ∨ (1040 ≤ (d : Int) ∧ (d : Int) ≤ 1071)
  · rw [fold_yes _ h]
    unfold Lib.encodeRune
    by_cases h1 : (d : Int) ≤ 90
    · rw [Lib.encodeRuneZ_one (by omega) (by omega), Lib.encodeRuneZ_one (by omega) (by omega)]; rfl
    · rw [Lib.encodeRuneZ_two (by omega) (by omega), Lib.encodeRuneZ_two (by omega) (by omega)]; rfl
  · rw [fold_no _ h]
theorem enc_ne (d : Int) : Lib.encodeRune d ≠ [] := by
  intro h
  have he := Lib.encodeRuneZ_length d
  have hle : (Lib.encodeRune d).length = (Lib.encodeRuneZ d).length := by simp [Lib.encodeRune]
  rw [h] at hle
  simp at hle
  omega
theorem fold_all : ∀ (n : Nat) (l : List UInt8), l.length ≤ n → Lib.validD l = true → (Lib.mapD fold l).length ≤ l.length ∧ Lib.validD (Lib.mapD fold l) = true ∧ Lib.mapD fold (Lib.mapD fold l) = Lib.mapD fold l ∧ (l ≠ [] → Lib.mapD fold l ≠ [])
  | 0, l, hn, hv => by
    obtain rfl : l = [] := List.eq_nil_of_length_eq_zero (by omega)
    exact ⟨Nat.le_refl _, hv, rfl, fun h => absurd rfl h⟩
  | n + 1, l, hn, hv => by
    by_cases hne : l = []
    · subst hne
      exact ⟨Nat.le_refl _, hv, rfl, fun h => absurd rfl h⟩
    · have hst := fold_step l hne hv
      have hv0 := hv
      rw [Lib.validD_step l hne] at hv0
      have hbad : ¬ ((Lib.decodeL l).1 = 65533 ∧ (Lib.decodeL l).2 = 1) := by
        intro h
        rw [if_pos h] at hv0
        cases hv0
      obtain ⟨d, hd, hs⟩ := fold_scalar _ (decodeL_scalar l hne hbad)
      have hw := Lib.decodeL_width l
      have hlen : 0 < l.length := List.length_pos_iff.2 hne
      obtain ⟨i1, i2, i3, _⟩ := fold_all n (l.drop (Lib.decodeL l).2) (by rw [List.length_drop]; omega) hst.1
      have hm := hst.2.2.2.1
      rw [hd] at hm
      have hl1 : (Lib.encodeRune (d : Int)).length = (l.take (Lib.decodeL l).2).length := by
        rw [← hd, enc_fold, Lib.encode_decode l hne hbad]
      have hne2 : Lib.encodeRune (d : Int) ++ Lib.mapD fold (l.drop (Lib.decodeL l).2) ≠ [] := by
        intro h
        exact enc_ne _ (List.append_eq_nil_iff.1 h).1
      have hdec := decode_encode d (Lib.mapD fold (l.drop (Lib.decodeL l).2)) hs
      have hfd : fold (d : Int) = (d : Int) := by rw [← hd]; exact fold_idem _
      rw [hm]
      refine ⟨?_, ?_, ?_, fun _ => hne2⟩
      · rw [List.length_append, hl1, List.length_take]
        rw [List.length_drop] at i1
        omega
      · rw [Lib.validD_step _ hne2, hdec]
        rw [if_neg (fun h => by
          obtain ⟨h1, h2⟩ := h
          simp only at h1 h2
          subst h1
          revert h2
          decide)]
        simp only [List.drop_left]
        exact i2
      · rw [Lib.mapD_step fold _ hne2, hdec]
        simp only
        rw [hfd, if_pos (by omega), List.drop_left, i3]

theorem local_idem {s : ByteArray} (h : (localS s).2 = 0) : localS (localS s).1 = ((localS s).1, 0) := by
  unfold localS at h
  by_cases hw : wordE s (validB s) = 0
  · rw [if_pos hw] at h
    by_cases ha : allB localR (folded s) = true
    · have e1 : localS s = (folded s, 0) := by unfold localS; rw [if_pos hw, if_pos ha]
      rw [e1]
      simp only
      unfold wordE at hw
      split at hw
      · cases hw
      · split at hw
        · cases hw
        · rename_i h1 h2
          simp only [Bool.or_eq_true, Bool.not_eq_true', not_or] at h2
          have hv : Lib.validD s.data.toList = true := by simpa [validB] using h2.2
          obtain ⟨f1, f2, f3, f4⟩ := fold_all _ s.data.toList (Nat.le_refl _) hv
          have hff : folded (folded s) = folded s := by
            unfold folded
            simp only [f3]
          have hne : s.data.toList ≠ [] := by
            intro e
            apply h2.1
            rw [Lib.toList_data, e]; rfl
          have hwf : wordE (folded s) (validB (folded s)) = 0 := by
            unfold wordE
            rw [if_neg (by
              have : (folded s).size = (Lib.mapD fold s.data.toList).length := rfl
              have := size_list s
              omega), if_neg (by
              simp only [Bool.or_eq_true, Bool.not_eq_true', not_or]
              refine ⟨?_, ?_⟩
              · rw [Lib.toList_data]
                intro e
                exact f4 hne (by simpa [folded] using e)
              · unfold validB
                show ¬ Lib.validD (Lib.mapD fold s.data.toList) = false
                rw [f2]; decide)]
          unfold localS
          rw [if_pos hwf, hff, if_pos ha]
    · rw [if_neg ha] at h
      cases h
  · rw [if_neg hw] at h
    exact absurd h hw

theorem local_nil : ¬ (localS ⟨#[]⟩).2 = 0 := of_decide_eq_false (by kernel_rfl)
/-- Refused, there is no name. -/
theorem local_no {s : ByteArray} (h : (localS s).2 ≠ 0) : (localS s).1 = ⟨#[]⟩ := by
  unfold localS at *
  split at h
  · rename_i h1
    rw [if_pos h1]
    split at h
    · exact absurd rfl h
    · rename_i h2; rw [if_neg h2]
  · rename_i h1; rw [if_neg h1]
theorem local_yes {s : ByteArray} (h : (localS s).2 = 0) : (localS s).1 ≠ ⟨#[]⟩ := fun e => by
  have := local_idem h
  rw [e] at this
  exact local_nil (by rw [this])
end Go.Proofs.YthbjcihdlhkboaaGreatDoor
