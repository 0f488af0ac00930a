/- The program's lists, as they are loaded. -/
import Derived.Test.YthbjcihdlhkboaaGreatDoorPl1
namespace Go.Proofs.YthbjcihdlhkboaaGreatDoor
set_option linter.unusedSimpArgs false
set_option linter.unusedVariables false
open Go.RowKit Go.Maps Go.Shelf Go.Lib

theorem LAt.lower {w : World} {B B' lb mb n : Nat} {D : DataW Value} {L : LS} (h : LAt w B lb mb n D L) (hB : B' ≤ B) : LAt w B' lb mb n D L :=
  { h with
    lists := fun s => by
      rcases h.lists s with e | ⟨v, rs, e1, e2, e3⟩
      · exact .inl e
      · exact .inr ⟨v, rs, e1, e2, e3.lower hB⟩
    lo := ⟨by have := h.lo.1; omega, by have := h.lo.2; omega⟩ }
theorem RightL.set {L : LS} (h : RightL L) (n : ByteArray) {ts : List ByteArray} (ht : ts.length ≤ 1000000) : RightL (L.set n ts).2 := by
  unfold LS.set
  split
  · cases hp : parseAll ts with
    | error e => exact h
    | ok rs =>
      simp only
      split
      · exact h
      · intro s qs hg
        by_cases e : s = n
        · subst e
          rw [LS.get_put_same] at hg
          cases hg
          obtain ⟨e1, e2⟩ := parseAll_mem hp
          exact ⟨by omega, fun q hq => let ⟨t, _, ht⟩ := e2 q hq; ⟨t, ht⟩⟩
        · rw [LS.get_put_other _ _ e] at hg
          exact h s qs hg
  · exact h

/-- Are they one? -/
theorem eq17_any (w : World) (v1 v2 : Value) (l1 l2 : List ByteArray) (h1 : Strs w v1 l1) (h2 : Strs w v2 l2) :
    Calls Tryz.prog 84 #[v1, v2] w fun e w' => e = .returned (.bool (decide (l1 = l2))) ∧ Below w.heap.size w w' := by
  obtain ⟨A1, c1, rfl⟩ : ∃ A c, v1 = .slice A l1.length c := let ⟨⟨A, cap, h, _⟩, _⟩ := h1; ⟨A, cap, h⟩
  obtain ⟨A2, c2, rfl⟩ : ∃ A c, v2 = .slice A l2.length c := let ⟨⟨A, cap, h, _⟩, _⟩ := h2; ⟨A, cap, h⟩
  by_cases hl : l1.length = l2.length
  · by_cases h0 : l1.length = 0
    · have e1 : l1 = [] := List.eq_nil_of_length_eq_zero h0
      have e2 : l2 = [] := List.eq_nil_of_length_eq_zero (by omega)
      subst e1 e2
      refine (Tryz.slices_Equal_string_empty A1 A2 c1 0 c2 w (by decide)).mono ?_
      rintro e w' ⟨rfl, hw⟩
      obtain rfl := hw.symm
      exact ⟨rfl, Below.refl _ _⟩
    · obtain ⟨b1, o1, rfl, _, _, _⟩ := h1.at (k := 0) (by omega)
      obtain ⟨b2, o2, rfl, _, _, _⟩ := h2.at (k := 0) (by omega)
      refine (Tryz.slices_Equal_string b1 o1 l1.length c1 b2 o2 l2.length c2 l1 l2 w (Nat.le_refl _) (Nat.le_refl _) h1.2 h2.2 (fun j hj => ?_) (fun j hj => ?_)).mono ?_
      · obtain ⟨b, o, e, _, _, y⟩ := h1.at hj
        cases e
        rw [y, List.getD_eq_getElem?_getD, List.getElem?_eq_getElem hj]; rfl
      · obtain ⟨b, o, e, _, _, y⟩ := h2.at hj
        cases e
        rw [y, List.getD_eq_getElem?_getD, List.getElem?_eq_getElem hj]; rfl
      · rintro e w' ⟨rfl, q, hw⟩
        obtain rfl := hw.symm
        exact ⟨by rw [List.take_length, List.take_length], below_drewNs _ _⟩
  · refine (Tryz.slices_Equal_string_lens A1 A2 l1.length c1 l2.length c2 w hl).mono ?_
    rintro e w' ⟨rfl, hw⟩
    obtain rfl := hw.symm
    exact ⟨by rw [decide_eq_false (fun h => hl (by rw [h]))], Below.refl _ _⟩

/-- Told of a round. -/
structure LdSt (w wx : World) (src : Obj) (lb mb k : Nat) (L X : LS) (c : Int) (tx : List ByteArray) (eq : Bool) (rs : Nat → Option Value) : Prop where
  below : Below w.heap.size w wx
  box : wx.heap[w.heap.size]? = some src
  old : rs 20 = none → ∃ n D, n ≤ k ∧ LAt wx w.heap.size lb mb n D L
  new : ∀ u, rs 20 = some u → u = .int .i64 c ∧ ∃ n D, n ≤ k + 1 ∧ LAt wx w.heap.size lb mb n D X
  txt : ∀ u, rs 26 = some u → ∃ A m, u = .slice A tx.length m ∧ TxtAt wx w.heap.size u tx
  eq : ∀ u, rs 32 = some u → u = .bool eq

set_option maxRecDepth 100000 in
set_option maxHeartbeats 16000000 in
theorem load17_any (w : World) (s : ShD) (vn vt : Value) (hn : Strs w vn s.names) (ht : TabS w vt s.texts) (hT : Tabs w) (hz : ∀ n ∈ s.names, n.size ≤ 1000000) (hl : s.names.length ≤ 100000) (htz : ∀ ts ∈ s.texts, ts.length ≤ 1000000 ∧ ∀ t ∈ ts, t.size ≤ 1000000) (hd : s.deflt.size ≤ maxLen) :
    Calls Tryz.prog 32 #[.agg #[.int .i64 s.lists, .int .i64 s.rules, .string s.deflt, vn, vt]] w fun e w' => Below w.heap.size w w' ∧
      ((LS.load s = none ∧ e = .returned (.tuple #[.pointer none, .int .i64 1])) ∨ ∃ L lb mb n D, LS.load s = some L ∧ e = .returned (.tuple #[.pointer (some ⟨lb, 0, none⟩), .int .i64 0]) ∧ n ≤ s.names.length ∧ LAt w' w.heap.size lb mb n D L) := by
  obtain ⟨sl, sr, sd, ns, tss⟩ := s
  simp only at hn ht hz hl htz hd ⊢
  obtain ⟨AN, cN, rfl⟩ : ∃ A c, vn = .slice A ns.length c := let ⟨⟨A, cap, h, _⟩, _⟩ := hn; ⟨A, cap, h⟩
  obtain ⟨AT, cT, rfl, htl, hts⟩ := ht
  obtain ⟨RES, hRES⟩ : ∃ R, LS.load ⟨sl, sr, sd, ns, tss⟩ = R := ⟨_, rfl⟩
  rw [hRES]
  unfold LS.load at hRES
  simp only at hRES
  obtain ⟨W1, hW1⟩ : ∃ W, w.alloc (.cells #[.int .i64 sl, .int .i64 sr, .string sd, .slice AN ns.length cN, .slice AT tss.length cT] 38) = W := ⟨_, rfl⟩
  have hb1 : Below w.heap.size w W1 := by rw [← hW1]; exact (Below.refl _ _).alloc (Nat.le_refl _) _
  have hx1 : W1.heap[w.heap.size]? = some (.cells #[.int .i64 sl, .int .i64 sr, .string sd, .slice AN ns.length cN, .slice AT tss.length cT] 38) := by rw [← hW1]; exact blk_new _ _
  have HN := Lib.hid hn
  have HTS := Lib.hid (And.intro htl hts)
  have HT := Lib.hid hT
  have HZ := Lib.hid (And.intro hz (And.intro hl (And.intro htz hd)))
  clear hn htl hts hT hz hl htz hd
  by_cases hb : badB sl sr
  · rw [if_pos (.inl hb)] at hRES
    subst hRES
    have HC := Lib.hid (new_bad sl sr hb W1)
    have HW := Lib.hid (And.intro hb1 hW1)
    clear hb hb1 hx1 hW1
    go_enter Tryz.func32, Tryz.ntmps32
    go_wp2_with fail
    rw [HW.out.2]
    refine HC.out.mono ?_
    rintro e w2 ⟨rfl, hb2⟩
    have HB := Lib.hid hb2
    clear hb2
    go_wp2_with fail
    go_ret2
    refine ⟨?_, .inl ⟨trivial, rfl⟩⟩
    exact HW.out.1.trans (HB.out.mono HW.out.1.size)
  · have hbb := hb
    unfold badB at hbb
    have CN := new_any sl sr (by omega) (by omega) (by omega) (by omega) W1
    obtain ⟨lb, hlb⟩ : ∃ l, W1.heap.size + 1 = l := ⟨_, rfl⟩
    obtain ⟨mb, hmb⟩ : ∃ l, W1.heap.size = l := ⟨_, rfl⟩
    have hCN : Calls Tryz.prog 10 #[.int .i64 sl, .int .i64 sr] W1 fun e w' => e = .returned (.tuple #[.pointer (some ⟨lb, 0, none⟩), .int .i64 0]) ∧ Below w.heap.size w w' ∧ w'.heap[w.heap.size]? = some (.cells #[.int .i64 sl, .int .i64 sr, .string sd, .slice AN ns.length cN, .slice AT tss.length cT] 38) ∧ LAt w' w.heap.size lb mb 0 (.map []) (LS.new sl sr) := by
      refine CN.mono ?_
      rintro e w' ⟨rfl, hb2, hl2⟩
      rw [hlb, hmb] at hl2
      exact ⟨by rw [hlb], hb1.trans (hb2.mono hb1.size), blk_below hx1 hb2 (blk_lt hx1), hl2.lower (by rw [← hmb]; exact hb1.size)⟩
    have HC := Lib.hid hCN
    have HW := Lib.hid hW1
    clear CN hCN hb1 hx1 hW1 hlb hmb hbb
    by_cases hle : ns.length = tss.length
    · rw [if_neg (show ¬ (badB sl sr ∨ ns.length ≠ tss.length) by simp [hb, hle])] at hRES
      have t1 : ((ns.length : Int) != (tss.length : Int)) = false := by simp [hle]
      have t0 : (0 : Int) ≤ (ns.length : Int) := by omega
      have HR := Lib.hid (And.intro hRES hle)
      clear hb hRES hle
      go_enter Tryz.func32, Tryz.ntmps32
      go_wp2_with fail
      rw [HW.out]
      refine HC.out.mono ?_
      rintro e w2 ⟨rfl, hb2, hx2, hl2⟩
      obtain ⟨y0, y1, y2, y3, y4, _⟩ := shCells hx2
      have HB := Lib.hid (And.intro hb2 (And.intro hx2 hl2))
      have hz2 : w.heap.size < w2.heap.size := blk_lt hx2
      clear hb2 hx2 hl2 HC HW
      go_wp2_with fail
      clear y0 y1 y2 y3 y4
      go_loopg [30] ns.length (fun g s30 wr => ∃ (k : Nat) (L : LS), k ≤ ns.length ∧ g = ns.length - k ∧ s30 = .int .i64 k ∧ Below w.heap.size w wr ∧ wr.heap[w.heap.size]? = some (.cells #[.int .i64 sl, .int .i64 sr, .string sd, .slice AN ns.length cN, .slice AT tss.length cT] 38) ∧ (∃ n D, n ≤ k ∧ LAt wr w.heap.size lb mb n D L) ∧ uptoL (LS.new sl sr) ns tss k = some L ∧ RightL L)
      case atStart => exact ⟨0, _, Nat.zero_le _, rfl, rfl, HB.out.1, HB.out.2.1, ⟨_, _, Nat.le_refl _, HB.out.2.2⟩, rfl, fun s rs h => by simp [LS.get] at h⟩
      case round =>
        clear HB
        obtain ⟨k, L, hk, hgk, rfl, hbx, hbox, hlat, hup, hrl⟩ := hrel
        have HX := Lib.hid (And.intro hbx (And.intro hbox (And.intro hlat (And.intro hup hrl))))
        have HK := Lib.hid (And.intro hk hgk)
        have hzb : w.heap.size < wr.heap.size := blk_lt hbox
        clear hbx hlat hup hrl hk hgk
        by_cases hlt : k < ns.length
        · have t2 : (k : Int) < (ns.length : Int) := by omega
          have t3 : (k : Int) < (tss.length : Int) := by have := HR.out.2; omega
          have t4 : (0 : Int) ≤ (k : Int) := by omega
          have hw : IntKind.i64.wrap ((k : Int) + 1) = (k : Int) + 1 := IntWalk.i64_in _ (by have := HZ.out.2.1; omega)
          obtain ⟨n, hnk⟩ : ∃ n, ns[k]? = some n := ⟨_, List.getElem?_eq_getElem hlt⟩
          obtain ⟨bN, oN, rfl, _, hbN, yN0⟩ := HN.out.at hlt
          have hnn : ns[k] = n := by rw [List.getElem?_eq_getElem hlt] at hnk; exact Option.some.inj hnk
          rw [hnn] at yN0
          have yN : wr.cell? ⟨bN, oN + k, none⟩ = some (.string n) := (HX.out.1.cell (p := ⟨bN, oN + k, none⟩) hbN).trans yN0
          obtain ⟨tx, htx⟩ : ∃ tx, tss[k]? = some tx := ⟨_, List.getElem?_eq_getElem (by have := HR.out.2; omega)⟩
          obtain ⟨bT, oT, rfl, hbT, hcT⟩ := HTS.out.2 (by have := HR.out.2; omega)
          obtain ⟨uT, yT, hST⟩ := hcT k tx htx
          obtain ⟨AX, cX, rfl⟩ : ∃ A c, uT = .slice A tx.length c := let ⟨⟨A, cap, h, _⟩, _⟩ := hST; ⟨A, cap, h⟩
          have HTX := Lib.hid (And.intro htx (And.intro hST (And.intro hnk hlt)))
          have HZN := Lib.hid (show n.size ≤ 1000000 ∧ tx.length ≤ 1000000 ∧ ∀ t ∈ tx, t.size ≤ 1000000 from ⟨HZ.out.1 n (List.mem_of_getElem? hnk), HZ.out.2.2.1 tx (List.mem_of_getElem? htx)⟩)
          obtain ⟨X, hX⟩ : ∃ X, (L.set n tx).2 = X := ⟨_, rfl⟩
          obtain ⟨c, hc⟩ : ∃ c, (L.set n tx).1 = c := ⟨_, rfl⟩
          obtain ⟨tw, htw⟩ : ∃ t, ((X.get n).getD []).map writeS = t := ⟨_, rfl⟩
          obtain ⟨eq, heq⟩ : ∃ e, decide (tw = tx) = e := ⟨_, rfl⟩
          have HX2 := Lib.hid (And.intro hc (And.intro hX (And.intro htw (show RightL X by rw [← hX]; exact HX.out.2.2.2.2.set n HZN.out.2.1))))
          have HEQ := Lib.hid heq
          have hstep : uptoL (LS.new sl sr) ns tss (k + 1) = stepL L (prevN ns k) n tx := by simp only [uptoL, HX.out.2.2.2.1, hnk, htx]
          have hst2 : stepL L (prevN ns k) n tx = if notUp (prevN ns k) n = true then none else if c ≠ 0 then none else if tw = tx then some X else none := by unfold stepL; rw [hX, hc, htw]
          have HST2 := Lib.hid (hstep.trans hst2)
          have hnone : uptoL (LS.new sl sr) ns tss (k + 1) = none → RES = none := fun h => by rw [← HR.out.1, uptoL_none h (by omega)]; rfl
          have HNONE := Lib.hid hnone
          clear hnn yN0 hcT htx hST hnk hX hc htw heq hstep hst2 hnone
          have hz1 : bN < wr.heap.size := by have := HX.out.1.size; omega
          obtain ⟨y0, y1, y2, y3, y4, _⟩ := shCells hbox
          clear hbox hlt
          by_cases hk0 : k = 0
          · have t5 : decide (0 < (k : Int)) = false := by simp; omega
            have hup0 : notUp (prevN ns k) n = false := by unfold prevN notUp; rw [if_pos hk0]
            have HU := Lib.hid hup0
            have HK0 := Lib.hid hk0
            clear hup0 hk0
            by_cases hc0 : c = 0
            · have HNONE0 := HNONE
              subst hc0
              clear HNONE
              have HNN : Hid (tw ≠ tx → RES = none) := Lib.hid (fun h => HNONE0.out (by rw [HST2.out, HU.out, if_neg (by decide), if_neg (by simp), if_neg h]))
              have HNX : Hid (tw = tx → uptoL (LS.new sl sr) ns tss (k + 1) = some X) := Lib.hid (fun h => by rw [HST2.out, HU.out, if_neg (by decide), if_neg (by simp), if_pos h])
              go_wp2_with fail
              clear y0 y1 y2 y3 y4 yN
              refine Reg.wp_region_puts (A := [[], [0], [1, 0], [2, 1, 0], [3, 2, 1, 0], [2, 1, 0], [5, 2, 1, 0], [4, 3, 2, 1, 0, 6, 5], [7, 4, 3, 2, 1, 0, 6, 5], [2, 1, 0], [8, 7, 4, 3, 2, 1, 0, 6, 5, 9], [2, 1, 0, 10, 8, 7, 4, 3, 6, 5, 9], [11, 2, 1, 0, 10, 8, 7, 4, 3, 6, 5, 9], [12, 11, 2, 1, 0, 10, 8, 7, 4, 3, 6, 5, 9], [12, 11, 2, 1, 0, 10, 8, 7, 4, 3, 6, 5, 9], [12, 11, 2, 1, 0, 10, 8, 7, 4, 3, 6, 5, 9], [15, 12, 11, 2, 1, 0, 10, 8, 7, 4, 3, 6, 5, 9], [12, 11, 2, 1, 0, 10, 8, 7, 4, 3, 6, 5, 9], [16, 15, 12, 11, 2, 1, 0, 10, 8, 7, 4, 3, 6, 5, 9, 17], [18, 16, 15, 12, 11, 2, 1, 0, 10, 8, 7, 4, 3, 6, 5, 9, 17], [13, 12, 11, 2, 1, 0, 10, 8, 7, 4, 3, 6, 5, 9, 14, 19, 18, 16, 15, 17], [20, 13, 12, 11, 2, 1, 0, 10, 8, 7, 4, 3, 6, 5, 9, 14, 19, 18, 16, 15, 17], [12, 11, 2, 1, 0, 10, 8, 7, 4, 3, 6, 5, 9, 21, 20, 13, 14, 19, 18, 16, 15, 17], [22, 12, 11, 2, 1, 0, 10, 8, 7, 4, 3, 6, 5, 9, 21, 20, 13, 14, 19, 18, 16, 15, 17], [23, 22, 12, 11, 2, 1, 0, 10, 8, 7, 4, 3, 6, 5, 9, 21, 20, 13, 14, 19, 18, 16, 15, 17], [23, 22, 12, 11, 2, 1, 0, 10, 8, 7, 4, 3, 6, 5, 9, 21, 20, 13, 14, 19, 18, 16, 15, 17], [24, 23, 22, 12, 11, 2, 1, 0, 10, 8, 7, 4, 3, 6, 5, 9, 21, 20, 13, 14, 19, 18, 16, 15, 17, 25], [23, 22, 12, 11, 2, 1, 0, 10, 8, 7, 4, 3, 6, 5, 9, 21, 20, 13, 14, 19, 18, 16, 15, 17], [27, 23, 22, 12, 11, 2, 1, 0, 10, 8, 7, 4, 3, 6, 5, 9, 21, 20, 13, 14, 19, 18, 16, 15, 17], [23, 22, 12, 11, 2, 1, 0, 10, 8, 7, 4, 3, 6, 5, 9, 21, 20, 13, 14, 19, 18, 16, 15, 17], [28, 27, 23, 22, 12, 11, 2, 1, 0, 10, 8, 7, 4, 3, 6, 5, 9, 21, 20, 13, 14, 19, 18, 16, 15, 17, 29], [30, 28, 27, 23, 22, 12, 11, 2, 1, 0, 10, 8, 7, 4, 3, 6, 5, 9, 21, 20, 13, 14, 19, 18, 16, 15, 17, 29], [26, 24, 23, 22, 12, 11, 2, 1, 0, 10, 8, 7, 4, 3, 6, 5, 9, 21, 20, 13, 14, 19, 18, 16, 15, 17, 25, 31, 30, 28, 27, 29], [32, 26, 24, 23, 22, 12, 11, 2, 1, 0, 10, 8, 7, 4, 3, 6, 5, 9, 21, 20, 13, 14, 19, 18, 16, 15, 17, 25, 31, 30, 28, 27, 29], [23, 22, 12, 11, 2, 1, 0, 10, 8, 7, 4, 3, 6, 5, 9, 21, 20, 13, 14, 19, 18, 16, 15, 17, 33, 32, 26, 24, 25, 31, 30, 28, 27, 29]]) (effs := [20, 26, 32]) (N := 77)
                (val := fun i r => match i with | 0 => .int .i64 k | 1 => .bool false | 2 => .bool false | 3 => undef | 4 => undef | 5 => undef | 6 => undef | 7 => undef | 8 => undef | 9 => undef | 10 => undef | 11 => .bool false | 12 => .bool false | 13 => .pointer (some ⟨lb, 0, none⟩) | 14 => .string n | 15 => .pointer (some ⟨w.heap.size, 4, none⟩) | 16 => .slice (some ⟨bT, oT, none⟩) tss.length cT | 17 => .int .i64 k | 18 => .pointer (some ⟨bT, oT + k, none⟩) | 19 => .slice AX tx.length cX | 21 => .bool false | 22 => .bool false | 23 => .bool false | 24 => .pointer (some ⟨lb, 0, none⟩) | 25 => .string n | 27 => .pointer (some ⟨w.heap.size, 4, none⟩) | 28 => .slice (some ⟨bT, oT, none⟩) tss.length cT | 29 => .int .i64 k | 30 => .pointer (some ⟨bT, oT + k, none⟩) | 31 => .slice AX tx.length cX | 33 => .bool (!eq) | 34 => .bool (!eq) | _ => undef)
                (Stage := fun rs wx => LdSt w wx (.cells #[.int .i64 sl, .int .i64 sr, .string sd, .slice (some ⟨bN, oN, none⟩) ns.length cN, .slice (some ⟨bT, oT, none⟩) tss.length cT] 38) lb mb k L X 0 tw eq rs)
                (fun rs => [(some 35, .int .i64 k), (some 36, .bool false), (some 37, .bool false), (some 38, undef), (some 39, undef), (some 40, undef), (some 41, undef), (some 42, undef), (some 43, undef), (some 44, undef), (some 45, undef), (some 46, .bool false), (some 47, .bool false), (some 48, .pointer (some ⟨lb, 0, none⟩)), (some 49, .string n), (some 50, .pointer (some ⟨w.heap.size, 4, none⟩)), (some 51, .slice (some ⟨bT, oT, none⟩) tss.length cT), (some 52, .int .i64 k), (some 53, .pointer (some ⟨bT, oT + k, none⟩)), (some 54, .slice AX tx.length cX), (some 55, (rs 20).getD undef), (some 56, .bool false), (some 57, .bool false), (some 58, .bool false), (some 59, .pointer (some ⟨lb, 0, none⟩)), (some 60, .string n), (some 61, (rs 26).getD undef), (some 62, .pointer (some ⟨w.heap.size, 4, none⟩)), (some 63, .slice (some ⟨bT, oT, none⟩) tss.length cT), (some 64, .int .i64 k), (some 65, .pointer (some ⟨bT, oT + k, none⟩)), (some 66, .slice AX tx.length cX), (some 67, (rs 32).getD undef), (some 68, .bool (!eq)), (some 69, .bool (!eq))])
                (by kernel_rfl) (by kernel_rfl) rfl (fun _ => rfl) ?h0 ?hob ?hend
              case hob =>
                intro i hi
                match i, hi with
                | 0, _ => exact Reg.Ob.pure rfl rfl rfl (fun rs => .int .i64 k) (fun _ => rfl) (fun rs wx r hs hd hl hk => by
                    have e6 : (r.tmps[6]?).getD undef = .int .i64 k := hk 6 (by decide)
                    go_simp)
                | 1, _ => exact Reg.Ob.pure rfl rfl rfl (fun rs => .bool false) (fun _ => rfl) (fun rs wx r hs hd hl hk => by
                    have e35 : (r.tmps[35]?).getD undef = .int .i64 k := hk 35 (by decide)
                    have t9 := HK0.out
                    go_simp)
                | 2, _ => exact Reg.Ob.pure rfl rfl rfl (fun rs => .bool false) (fun _ => rfl) (fun rs wx r hs hd hl hk => by
                    have e36 : (r.tmps[36]?).getD undef = .bool false := hk 36 (by decide)
                    go_simp)
                | 3, _ => exact Reg.Ob.skip rfl rfl (fun _ => rfl) (fun rs wx hs hd => rfl)
                | 4, _ => exact Reg.Ob.skip rfl rfl (fun _ => rfl) (fun rs wx hs hd => rfl)
                | 5, _ => exact Reg.Ob.skip rfl rfl (fun _ => rfl) (fun rs wx hs hd => rfl)
                | 6, _ => exact Reg.Ob.skip rfl rfl (fun _ => rfl) (fun rs wx hs hd => rfl)
                | 7, _ => exact Reg.Ob.skip rfl rfl (fun _ => rfl) (fun rs wx hs hd => rfl)
                | 8, _ => exact Reg.Ob.skip rfl rfl (fun _ => rfl) (fun rs wx hs hd => rfl)
                | 9, _ => exact Reg.Ob.skip rfl rfl (fun _ => rfl) (fun rs wx hs hd => rfl)
                | 10, _ => exact Reg.Ob.skip rfl rfl (fun _ => rfl) (fun rs wx hs hd => rfl)
                | 11, _ => exact Reg.Ob.pure rfl rfl rfl (fun rs => .bool false) (fun _ => rfl) (fun rs wx r hs hd hl hk => by
                    have e37 : (r.tmps[37]?).getD undef = .bool false := hk 37 (by decide)
                    have e45 : (r.tmps[45]?).getD undef = undef := hk 45 (by decide)
                    go_simp)
                | 12, _ => exact Reg.Ob.pure rfl rfl rfl (fun rs => .bool false) (fun _ => rfl) (fun rs wx r hs hd hl hk => by
                    have e46 : (r.tmps[46]?).getD undef = .bool false := hk 46 (by decide)
                    go_simp)
                | 13, _ => exact Reg.Ob.guarded rfl rfl (fun rs => .pointer (some ⟨lb, 0, none⟩)) (fun _ => rfl) (fun rs wx hs hd => rfl) (fun rs wx r hs hd hl hk => by
                    have e4 : (r.tmps[4]?).getD undef = .pointer (some ⟨lb, 0, none⟩) := hk 4 (by decide)
                    go_simp)
                | 14, _ => exact Reg.Ob.guarded rfl rfl (fun rs => .string n) (fun _ => rfl) (fun rs wx hs hd => rfl) (fun rs wx r hs hd hl hk => by
                    have e7 : (r.tmps[7]?).getD undef = .string n := hk 7 (by decide)
                    go_simp)
                | 15, _ => exact Reg.Ob.guarded rfl rfl (fun rs => .pointer (some ⟨w.heap.size, 4, none⟩)) (fun _ => rfl) (fun rs wx hs hd => rfl) (fun rs wx r hs hd hl hk => by
                    have e1 : (r.tmps[1]?).getD undef = .pointer (some ⟨w.heap.size, 0, none⟩) := hk 1 (by decide)
                    go_simp)
                | 16, _ => exact Reg.Ob.guarded rfl rfl (fun rs => .slice (some ⟨bT, oT, none⟩) tss.length cT) (fun _ => rfl) (fun rs wx hs hd => rfl) (fun rs wx r hs hd hl hk => by
                    have e50 : (r.tmps[50]?).getD undef = .pointer (some ⟨w.heap.size, 4, none⟩) := hk 50 (by decide)
                    have c : wx.cell? ⟨w.heap.size, 4, none⟩ = some (.slice (some ⟨bT, oT, none⟩) tss.length cT) := blk_cell hs.box 4
                    go_simp)
                | 17, _ => exact Reg.Ob.guarded rfl rfl (fun rs => .int .i64 k) (fun _ => rfl) (fun rs wx hs hd => rfl) (fun rs wx r hs hd hl hk => by
                    have e6 : (r.tmps[6]?).getD undef = .int .i64 k := hk 6 (by decide)
                    go_simp)
                | 18, _ => exact Reg.Ob.guarded rfl rfl (fun rs => .pointer (some ⟨bT, oT + k, none⟩)) (fun _ => rfl) (fun rs wx hs hd => rfl) (fun rs wx r hs hd hl hk => by
                    have e51 : (r.tmps[51]?).getD undef = .slice (some ⟨bT, oT, none⟩) tss.length cT := hk 51 (by decide)
                    have e52 : (r.tmps[52]?).getD undef = .int .i64 k := hk 52 (by decide)
                    go_simp)
                | 19, _ => exact Reg.Ob.guarded rfl rfl (fun rs => .slice AX tx.length cX) (fun _ => rfl) (fun rs wx hs hd => rfl) (fun rs wx r hs hd hl hk => by
                    have e53 : (r.tmps[53]?).getD undef = .pointer (some ⟨bT, oT + k, none⟩) := hk 53 (by decide)
                    have c : wx.cell? ⟨bT, oT + k, none⟩ = some (.slice AX tx.length cX) := (hs.below.cell (p := ⟨bT, oT + k, none⟩) hbT).trans yT
                    go_simp)
                | 20, _ =>
                  refine Reg.Ob.geff rfl rfl (fun rs wx hs hd => rfl) ?_
                  intro rs wx r hs hd hn hl hk K hK
                  have e48 : (r.tmps[48]?).getD undef = .pointer (some ⟨lb, 0, none⟩) := hk 48 (by decide)
                  have e49 : (r.tmps[49]?).getD undef = .string n := hk 49 (by decide)
                  have e54 : (r.tmps[54]?).getD undef = .slice AX tx.length cX := hk 54 (by decide)
                  obtain ⟨n0, D0, hn0, hl0⟩ := hs.old hn
                  have C := set_any hl0 (HT.out.later hs.below) n (HZN.out.1) (.slice AX tx.length cX) tx (HTX.out.2.1.below hs.below) HZN.out.2.1 HZN.out.2.2 (by have := HK.out.1; have := HZ.out.2.1; omega) hs.below.size
                  rw [HX2.out.1, HX2.out.2.1] at C
                  have hmb := hl0.cells_ne hs.box (by decide)
                  have HC := Lib.hid (And.intro C (And.intro hmb (And.intro hn0 hl0.lo)))
                  clear C hmb hn0 hl0
                  have HS := Lib.hid hs
                  have HN' := Lib.hid hn
                  have HL := Lib.hid hl
                  have HKK := Lib.hid hK
                  clear hs hn hd hl hk hK
                  go_simp
                  refine HC.out.1.mono ?_
                  rintro e w5 ⟨rfl, n1, D1, hn1, hl1, hg1⟩
                  refine HKK.out _ _ ⟨HS.out.below.grown hg1 HS.out.below.size (fun j hj => (by cases hj; exact HC.out.2.2.2.2)), blk_grown HS.out.box hg1 (by intro e; cases e; exact HC.out.2.1.2 rfl), fun h => (by simp [Reg.upd] at h), fun u hu => ?_, ?_, ?_⟩
                  · have h2 : some (Value.int .i64 0) = some u := hu
                    cases h2
                    exact ⟨rfl, n1, D1, by have := HC.out.2.2.1; omega, hl1⟩
                  · intro u hu
                    have : rs 26 = some u := by simpa [Reg.upd] using hu
                    rw [HL.out 26 (by decide)] at this
                    cases this
                  · intro u hu
                    have : rs 32 = some u := by simpa [Reg.upd] using hu
                    rw [HL.out 32 (by decide)] at this
                    cases this
                | 21, _ => exact Reg.Ob.guarded rfl rfl (fun rs => .bool false) (fun _ => rfl) (fun rs wx hs hd => rfl) (fun rs wx r hs hd hl hk => by
                    have e55 : (r.tmps[55]?).getD undef = ((rs 20).getD undef) := hk 55 (by decide)
                    obtain ⟨u20, hu20⟩ := hd 20 (by decide) (by decide)
                    obtain ⟨rfl, _⟩ := hs.new u20 hu20
                    rw [hu20] at e55
                    simp only [Option.getD_some] at e55
                    clear hu20
                    go_simp)
                | 22, _ => exact Reg.Ob.pure rfl rfl rfl (fun rs => .bool false) (fun _ => rfl) (fun rs wx r hs hd hl hk => by
                    have e47 : (r.tmps[47]?).getD undef = .bool false := hk 47 (by decide)
                    have e56 : (r.tmps[56]?).getD undef = .bool false := hk 56 (by decide)
                    go_simp)
                | 23, _ => exact Reg.Ob.pure rfl rfl rfl (fun rs => .bool false) (fun _ => rfl) (fun rs wx r hs hd hl hk => by
                    have e57 : (r.tmps[57]?).getD undef = .bool false := hk 57 (by decide)
                    go_simp)
                | 24, _ => exact Reg.Ob.guarded rfl rfl (fun rs => .pointer (some ⟨lb, 0, none⟩)) (fun _ => rfl) (fun rs wx hs hd => rfl) (fun rs wx r hs hd hl hk => by
                    have e4 : (r.tmps[4]?).getD undef = .pointer (some ⟨lb, 0, none⟩) := hk 4 (by decide)
                    go_simp)
                | 25, _ => exact Reg.Ob.guarded rfl rfl (fun rs => .string n) (fun _ => rfl) (fun rs wx hs hd => rfl) (fun rs wx r hs hd hl hk => by
                    have e7 : (r.tmps[7]?).getD undef = .string n := hk 7 (by decide)
                    go_simp)
                | 26, _ =>
                  refine Reg.Ob.geff rfl rfl (fun rs wx hs hd => rfl) ?_
                  intro rs wx r hs hd hn hl hk K hK
                  have e59 : (r.tmps[59]?).getD undef = .pointer (some ⟨lb, 0, none⟩) := hk 59 (by decide)
                  have e60 : (r.tmps[60]?).getD undef = .string n := hk 60 (by decide)
                  obtain ⟨u20, hu20⟩ := hd 20 (by decide) (by decide)
                  obtain ⟨_, n0, D0, hn0, hl0⟩ := hs.new u20 hu20
                  have C := texts17_any hl0 HX2.out.2.2.2 n (by have := HZN.out.1; unfold maxLen; omega)
                  rw [HX2.out.2.2.1] at C
                  have HC := Lib.hid (And.intro C hu20)
                  clear C hn0 hl0 hu20
                  have HS := Lib.hid hs
                  have HN' := Lib.hid hn
                  have HL := Lib.hid hl
                  have HKK := Lib.hid hK
                  clear hs hn hd hl hk hK
                  go_simp
                  refine HC.out.1.mono ?_
                  rintro e w5 ⟨A5, m5, rfl, ht5, hb5⟩
                  refine HKK.out _ _ ⟨HS.out.below.trans (hb5.mono HS.out.below.size), blk_below HS.out.box hb5 (blk_lt HS.out.box), fun h => ?_, fun u hu => ?_, fun u hu => ?_, ?_⟩
                  · have : rs 20 = none := by simpa [Reg.upd] using h
                    rw [HC.out.2] at this
                    cases this
                  · obtain ⟨e1, n1, D1, e2, e3⟩ := HS.out.new u (by simpa [Reg.upd] using hu)
                    exact ⟨e1, n1, D1, e2, e3.below hb5⟩
                  · have h2 : some (Value.slice A5 tw.length m5) = some u := hu
                    cases h2
                    exact ⟨A5, m5, rfl, ht5.lower HS.out.below.size⟩
                  · intro u hu
                    have : rs 32 = some u := by simpa [Reg.upd] using hu
                    rw [HL.out 32 (by decide)] at this
                    cases this
                | 27, _ => exact Reg.Ob.guarded rfl rfl (fun rs => .pointer (some ⟨w.heap.size, 4, none⟩)) (fun _ => rfl) (fun rs wx hs hd => rfl) (fun rs wx r hs hd hl hk => by
                    have e1 : (r.tmps[1]?).getD undef = .pointer (some ⟨w.heap.size, 0, none⟩) := hk 1 (by decide)
                    go_simp)
                | 28, _ => exact Reg.Ob.guarded rfl rfl (fun rs => .slice (some ⟨bT, oT, none⟩) tss.length cT) (fun _ => rfl) (fun rs wx hs hd => rfl) (fun rs wx r hs hd hl hk => by
                    have e62 : (r.tmps[62]?).getD undef = .pointer (some ⟨w.heap.size, 4, none⟩) := hk 62 (by decide)
                    have c : wx.cell? ⟨w.heap.size, 4, none⟩ = some (.slice (some ⟨bT, oT, none⟩) tss.length cT) := blk_cell hs.box 4
                    go_simp)
                | 29, _ => exact Reg.Ob.guarded rfl rfl (fun rs => .int .i64 k) (fun _ => rfl) (fun rs wx hs hd => rfl) (fun rs wx r hs hd hl hk => by
                    have e6 : (r.tmps[6]?).getD undef = .int .i64 k := hk 6 (by decide)
                    go_simp)
                | 30, _ => exact Reg.Ob.guarded rfl rfl (fun rs => .pointer (some ⟨bT, oT + k, none⟩)) (fun _ => rfl) (fun rs wx hs hd => rfl) (fun rs wx r hs hd hl hk => by
                    have e63 : (r.tmps[63]?).getD undef = .slice (some ⟨bT, oT, none⟩) tss.length cT := hk 63 (by decide)
                    have e64 : (r.tmps[64]?).getD undef = .int .i64 k := hk 64 (by decide)
                    go_simp)
                | 31, _ => exact Reg.Ob.guarded rfl rfl (fun rs => .slice AX tx.length cX) (fun _ => rfl) (fun rs wx hs hd => rfl) (fun rs wx r hs hd hl hk => by
                    have e65 : (r.tmps[65]?).getD undef = .pointer (some ⟨bT, oT + k, none⟩) := hk 65 (by decide)
                    have c : wx.cell? ⟨bT, oT + k, none⟩ = some (.slice AX tx.length cX) := (hs.below.cell (p := ⟨bT, oT + k, none⟩) hbT).trans yT
                    go_simp)
                | 32, _ =>
                  refine Reg.Ob.geff rfl rfl (fun rs wx hs hd => rfl) ?_
                  intro rs wx r hs hd hn hl hk K hK
                  have e61 : (r.tmps[61]?).getD undef = ((rs 26).getD undef) := hk 61 (by decide)
                  have e66 : (r.tmps[66]?).getD undef = .slice AX tx.length cX := hk 66 (by decide)
                  obtain ⟨u26, hu26⟩ := hd 26 (by decide) (by decide)
                  obtain ⟨u20, hu20⟩ := hd 20 (by decide) (by decide)
                  obtain ⟨A5, m5, rfl, ht5⟩ := hs.txt u26 hu26
                  rw [hu26] at e61
                  simp only [Option.getD_some] at e61
                  have C := eq17_any wx (.slice A5 tw.length m5) (.slice AX tx.length cX) tw tx (txt_strs ht5) (HTX.out.2.1.below hs.below)
                  rw [HEQ.out] at C
                  have HC := Lib.hid (And.intro C (And.intro hu20 (And.intro hu26 ht5)))
                  clear C hu20 hu26 ht5
                  have HS := Lib.hid hs
                  have HN' := Lib.hid hn
                  have HL := Lib.hid hl
                  have HKK := Lib.hid hK
                  clear hs hn hd hl hk hK
                  go_simp
                  refine HC.out.1.mono ?_
                  rintro e w5 ⟨rfl, hb5⟩
                  refine HKK.out _ _ ⟨HS.out.below.trans (hb5.mono HS.out.below.size), blk_below HS.out.box hb5 (blk_lt HS.out.box), fun h => ?_, fun u hu => ?_, fun u hu => ?_, fun u hu => ?_⟩
                  · have : rs 20 = none := by simpa [Reg.upd] using h
                    rw [HC.out.2.1] at this
                    cases this
                  · obtain ⟨e1, n1, D1, e2, e3⟩ := HS.out.new u (by simpa [Reg.upd] using hu)
                    exact ⟨e1, n1, D1, e2, e3.below hb5⟩
                  · obtain ⟨A, m, e1, e2⟩ := HS.out.txt u (by simpa [Reg.upd] using hu)
                    exact ⟨A, m, e1, e2.below hb5 (fun j hj => (e2.lt j hj).2)⟩
                  · have h2 : some (Value.bool eq) = some u := hu
                    cases h2
                    rfl
                | 33, _ => exact Reg.Ob.guarded rfl rfl (fun rs => .bool (!eq)) (fun _ => rfl) (fun rs wx hs hd => rfl) (fun rs wx r hs hd hl hk => by
                    have e67 : (r.tmps[67]?).getD undef = ((rs 32).getD undef) := hk 67 (by decide)
                    obtain ⟨u32, hu32⟩ := hd 32 (by decide) (by decide)
                    obtain rfl := hs.eq u32 hu32
                    rw [hu32] at e67
                    simp only [Option.getD_some] at e67
                    clear hu32
                    go_simp)
                | 34, _ => exact Reg.Ob.pure rfl rfl rfl (fun rs => .bool (!eq)) (fun _ => rfl) (fun rs wx r hs hd hl hk => by
                    have e58 : (r.tmps[58]?).getD undef = .bool false := hk 58 (by decide)
                    have e68 : (r.tmps[68]?).getD undef = .bool (!eq) := hk 68 (by decide)
                    go_simp)
                | n + 35, h => exact absurd h (by simp <;> omega)
              case h0 =>
                exact ⟨HX.out.1.drew, HX.out.2.1, fun _ => (let ⟨n, D, a, b⟩ := HX.out.2.2.1; ⟨n, D, a, b.below (below_drewNs wr 1)⟩), fun u hu => (by cases hu), fun u hu => (by cases hu), fun u hu => (by cases hu)⟩
              case hend =>
                intro rs wx hs hd
                obtain ⟨u20, hu20⟩ := hd 20 (by decide) (by decide)
                obtain ⟨u26, hu26⟩ := hd 26 (by decide) (by decide)
                obtain ⟨u32, hu32⟩ := hd 32 (by decide) (by decide)
                obtain ⟨rfl, n1, D1, hn1, hl1⟩ := hs.new u20 hu20
                obtain ⟨A5, m5, rfl, _⟩ := hs.txt u26 hu26
                obtain rfl := hs.eq u32 hu32
                simp only [List.foldl_cons, List.foldl_nil, Act.put, List.setIfInBounds_toArray, List.set_cons_zero, List.set_cons_succ]
                rw [hu20, hu26, hu32]
                simp only [Option.getD_some]
                have HE := Lib.hid (And.intro hs.below (And.intro hs.box (And.intro hn1 hl1)))
                clear hs hd hu20 hu26 hu32 hn1 hl1
                cases eq with
                | false =>
                  have HNE : Hid (RES = none) := Lib.hid (HNN.out (by simpa using HEQ.out))
                  clear HNN HNX HEQ
                  go_wp2_with fail
                  go_ret2
                  exact ⟨HE.out.1, .inl ⟨HNE.out, rfl⟩⟩
                | true =>
                  have HNE := Lib.hid (HNX.out (by simpa using HEQ.out))
                  clear HNN HNX HEQ
                  go_wp2_with fail
                  go_roundg (ns.length - (k + 1))
                  case measure => have := HK.out.2; have := HTX.out.2.2.2; omega
                  case rel => exact ⟨k + 1, X, by have := HTX.out.2.2.2; omega, rfl, by go_num, HE.out.1, HE.out.2.1, ⟨n1, D1, HE.out.2.2⟩, HNE.out, HX2.out.2.2.2⟩
            · have t6 : (c != 0) = true := by simpa using hc0
              have HNN : Hid (RES = none) := Lib.hid (HNONE.out (by rw [HST2.out, HU.out, if_neg (by decide), if_pos hc0]))
              clear hc0
              go_wp2_with fail
              clear y0 y1 y2 y3 y4 yN
              refine Reg.wp_region_puts (A := [[], [0], [1, 0], [2, 1, 0], [3, 2, 1, 0], [2, 1, 0], [5, 2, 1, 0], [4, 3, 2, 1, 0, 6, 5], [7, 4, 3, 2, 1, 0, 6, 5], [2, 1, 0], [8, 7, 4, 3, 2, 1, 0, 6, 5, 9], [2, 1, 0, 10, 8, 7, 4, 3, 6, 5, 9], [11, 2, 1, 0, 10, 8, 7, 4, 3, 6, 5, 9], [12, 11, 2, 1, 0, 10, 8, 7, 4, 3, 6, 5, 9], [12, 11, 2, 1, 0, 10, 8, 7, 4, 3, 6, 5, 9], [12, 11, 2, 1, 0, 10, 8, 7, 4, 3, 6, 5, 9], [15, 12, 11, 2, 1, 0, 10, 8, 7, 4, 3, 6, 5, 9], [12, 11, 2, 1, 0, 10, 8, 7, 4, 3, 6, 5, 9], [16, 15, 12, 11, 2, 1, 0, 10, 8, 7, 4, 3, 6, 5, 9, 17], [18, 16, 15, 12, 11, 2, 1, 0, 10, 8, 7, 4, 3, 6, 5, 9, 17], [13, 12, 11, 2, 1, 0, 10, 8, 7, 4, 3, 6, 5, 9, 14, 19, 18, 16, 15, 17], [20, 13, 12, 11, 2, 1, 0, 10, 8, 7, 4, 3, 6, 5, 9, 14, 19, 18, 16, 15, 17], [12, 11, 2, 1, 0, 10, 8, 7, 4, 3, 6, 5, 9, 21, 20, 13, 14, 19, 18, 16, 15, 17], [22, 12, 11, 2, 1, 0, 10, 8, 7, 4, 3, 6, 5, 9, 21, 20, 13, 14, 19, 18, 16, 15, 17], [23, 22, 12, 11, 2, 1, 0, 10, 8, 7, 4, 3, 6, 5, 9, 21, 20, 13, 14, 19, 18, 16, 15, 17], [23, 22, 12, 11, 2, 1, 0, 10, 8, 7, 4, 3, 6, 5, 9, 21, 20, 13, 14, 19, 18, 16, 15, 17], [24, 23, 22, 12, 11, 2, 1, 0, 10, 8, 7, 4, 3, 6, 5, 9, 21, 20, 13, 14, 19, 18, 16, 15, 17, 25], [23, 22, 12, 11, 2, 1, 0, 10, 8, 7, 4, 3, 6, 5, 9, 21, 20, 13, 14, 19, 18, 16, 15, 17], [27, 23, 22, 12, 11, 2, 1, 0, 10, 8, 7, 4, 3, 6, 5, 9, 21, 20, 13, 14, 19, 18, 16, 15, 17], [23, 22, 12, 11, 2, 1, 0, 10, 8, 7, 4, 3, 6, 5, 9, 21, 20, 13, 14, 19, 18, 16, 15, 17], [28, 27, 23, 22, 12, 11, 2, 1, 0, 10, 8, 7, 4, 3, 6, 5, 9, 21, 20, 13, 14, 19, 18, 16, 15, 17, 29], [30, 28, 27, 23, 22, 12, 11, 2, 1, 0, 10, 8, 7, 4, 3, 6, 5, 9, 21, 20, 13, 14, 19, 18, 16, 15, 17, 29], [26, 24, 23, 22, 12, 11, 2, 1, 0, 10, 8, 7, 4, 3, 6, 5, 9, 21, 20, 13, 14, 19, 18, 16, 15, 17, 25, 31, 30, 28, 27, 29], [32, 26, 24, 23, 22, 12, 11, 2, 1, 0, 10, 8, 7, 4, 3, 6, 5, 9, 21, 20, 13, 14, 19, 18, 16, 15, 17, 25, 31, 30, 28, 27, 29], [23, 22, 12, 11, 2, 1, 0, 10, 8, 7, 4, 3, 6, 5, 9, 21, 20, 13, 14, 19, 18, 16, 15, 17, 33, 32, 26, 24, 25, 31, 30, 28, 27, 29]]) (effs := [20]) (N := 77)
                (val := fun i r => match i with | 0 => .int .i64 k | 1 => .bool false | 2 => .bool false | 3 => undef | 4 => undef | 5 => undef | 6 => undef | 7 => undef | 8 => undef | 9 => undef | 10 => undef | 11 => .bool false | 12 => .bool false | 13 => .pointer (some ⟨lb, 0, none⟩) | 14 => .string n | 15 => .pointer (some ⟨w.heap.size, 4, none⟩) | 16 => .slice (some ⟨bT, oT, none⟩) tss.length cT | 17 => .int .i64 k | 18 => .pointer (some ⟨bT, oT + k, none⟩) | 19 => .slice AX tx.length cX | 21 => .bool true | 22 => .bool true | 23 => .bool true | 24 => undef | 25 => undef | 26 => undef | 27 => undef | 28 => undef | 29 => undef | 30 => undef | 31 => undef | 32 => undef | 33 => undef | 34 => .bool true | _ => undef)
                (Stage := fun rs wx => LdSt w wx (.cells #[.int .i64 sl, .int .i64 sr, .string sd, .slice (some ⟨bN, oN, none⟩) ns.length cN, .slice (some ⟨bT, oT, none⟩) tss.length cT] 38) lb mb k L X c tw eq rs ∧ rs 26 = none ∧ rs 32 = none)
                (fun rs => [(some 35, .int .i64 k), (some 36, .bool false), (some 37, .bool false), (some 38, undef), (some 39, undef), (some 40, undef), (some 41, undef), (some 42, undef), (some 43, undef), (some 44, undef), (some 45, undef), (some 46, .bool false), (some 47, .bool false), (some 48, .pointer (some ⟨lb, 0, none⟩)), (some 49, .string n), (some 50, .pointer (some ⟨w.heap.size, 4, none⟩)), (some 51, .slice (some ⟨bT, oT, none⟩) tss.length cT), (some 52, .int .i64 k), (some 53, .pointer (some ⟨bT, oT + k, none⟩)), (some 54, .slice AX tx.length cX), (some 55, (rs 20).getD undef), (some 56, .bool true), (some 57, .bool true), (some 58, .bool true), (some 59, undef), (some 60, undef), (some 61, undef), (some 62, undef), (some 63, undef), (some 64, undef), (some 65, undef), (some 66, undef), (some 67, undef), (some 68, undef), (some 69, .bool true)])
                (by kernel_rfl) (by kernel_rfl) rfl (fun _ => rfl) ?h0 ?hob ?hend
              case hob =>
                intro i hi
                match i, hi with
                | 0, _ => exact Reg.Ob.pure rfl rfl rfl (fun rs => .int .i64 k) (fun _ => rfl) (fun rs wx r hs hd hl hk => by
                    have e6 : (r.tmps[6]?).getD undef = .int .i64 k := hk 6 (by decide)
                    go_simp)
                | 1, _ => exact Reg.Ob.pure rfl rfl rfl (fun rs => .bool false) (fun _ => rfl) (fun rs wx r hs hd hl hk => by
                    have e35 : (r.tmps[35]?).getD undef = .int .i64 k := hk 35 (by decide)
                    have t9 := HK0.out
                    go_simp)
                | 2, _ => exact Reg.Ob.pure rfl rfl rfl (fun rs => .bool false) (fun _ => rfl) (fun rs wx r hs hd hl hk => by
                    have e36 : (r.tmps[36]?).getD undef = .bool false := hk 36 (by decide)
                    go_simp)
                | 3, _ => exact Reg.Ob.skip rfl rfl (fun _ => rfl) (fun rs wx hs hd => rfl)
                | 4, _ => exact Reg.Ob.skip rfl rfl (fun _ => rfl) (fun rs wx hs hd => rfl)
                | 5, _ => exact Reg.Ob.skip rfl rfl (fun _ => rfl) (fun rs wx hs hd => rfl)
                | 6, _ => exact Reg.Ob.skip rfl rfl (fun _ => rfl) (fun rs wx hs hd => rfl)
                | 7, _ => exact Reg.Ob.skip rfl rfl (fun _ => rfl) (fun rs wx hs hd => rfl)
                | 8, _ => exact Reg.Ob.skip rfl rfl (fun _ => rfl) (fun rs wx hs hd => rfl)
                | 9, _ => exact Reg.Ob.skip rfl rfl (fun _ => rfl) (fun rs wx hs hd => rfl)
                | 10, _ => exact Reg.Ob.skip rfl rfl (fun _ => rfl) (fun rs wx hs hd => rfl)
                | 11, _ => exact Reg.Ob.pure rfl rfl rfl (fun rs => .bool false) (fun _ => rfl) (fun rs wx r hs hd hl hk => by
                    have e37 : (r.tmps[37]?).getD undef = .bool false := hk 37 (by decide)
                    have e45 : (r.tmps[45]?).getD undef = undef := hk 45 (by decide)
                    go_simp)
                | 12, _ => exact Reg.Ob.pure rfl rfl rfl (fun rs => .bool false) (fun _ => rfl) (fun rs wx r hs hd hl hk => by
                    have e46 : (r.tmps[46]?).getD undef = .bool false := hk 46 (by decide)
                    go_simp)
                | 13, _ => exact Reg.Ob.guarded rfl rfl (fun rs => .pointer (some ⟨lb, 0, none⟩)) (fun _ => rfl) (fun rs wx hs hd => rfl) (fun rs wx r hs hd hl hk => by
                    have e4 : (r.tmps[4]?).getD undef = .pointer (some ⟨lb, 0, none⟩) := hk 4 (by decide)
                    go_simp)
                | 14, _ => exact Reg.Ob.guarded rfl rfl (fun rs => .string n) (fun _ => rfl) (fun rs wx hs hd => rfl) (fun rs wx r hs hd hl hk => by
                    have e7 : (r.tmps[7]?).getD undef = .string n := hk 7 (by decide)
                    go_simp)
                | 15, _ => exact Reg.Ob.guarded rfl rfl (fun rs => .pointer (some ⟨w.heap.size, 4, none⟩)) (fun _ => rfl) (fun rs wx hs hd => rfl) (fun rs wx r hs hd hl hk => by
                    have e1 : (r.tmps[1]?).getD undef = .pointer (some ⟨w.heap.size, 0, none⟩) := hk 1 (by decide)
                    go_simp)
                | 16, _ => exact Reg.Ob.guarded rfl rfl (fun rs => .slice (some ⟨bT, oT, none⟩) tss.length cT) (fun _ => rfl) (fun rs wx hs hd => rfl) (fun rs wx r hs hd hl hk => by
                    have e50 : (r.tmps[50]?).getD undef = .pointer (some ⟨w.heap.size, 4, none⟩) := hk 50 (by decide)
                    have c : wx.cell? ⟨w.heap.size, 4, none⟩ = some (.slice (some ⟨bT, oT, none⟩) tss.length cT) := blk_cell hs.1.box 4
                    go_simp)
                | 17, _ => exact Reg.Ob.guarded rfl rfl (fun rs => .int .i64 k) (fun _ => rfl) (fun rs wx hs hd => rfl) (fun rs wx r hs hd hl hk => by
                    have e6 : (r.tmps[6]?).getD undef = .int .i64 k := hk 6 (by decide)
                    go_simp)
                | 18, _ => exact Reg.Ob.guarded rfl rfl (fun rs => .pointer (some ⟨bT, oT + k, none⟩)) (fun _ => rfl) (fun rs wx hs hd => rfl) (fun rs wx r hs hd hl hk => by
                    have e51 : (r.tmps[51]?).getD undef = .slice (some ⟨bT, oT, none⟩) tss.length cT := hk 51 (by decide)
                    have e52 : (r.tmps[52]?).getD undef = .int .i64 k := hk 52 (by decide)
                    go_simp)
                | 19, _ => exact Reg.Ob.guarded rfl rfl (fun rs => .slice AX tx.length cX) (fun _ => rfl) (fun rs wx hs hd => rfl) (fun rs wx r hs hd hl hk => by
                    have e53 : (r.tmps[53]?).getD undef = .pointer (some ⟨bT, oT + k, none⟩) := hk 53 (by decide)
                    have c : wx.cell? ⟨bT, oT + k, none⟩ = some (.slice AX tx.length cX) := (hs.1.below.cell (p := ⟨bT, oT + k, none⟩) hbT).trans yT
                    go_simp)
                | 20, _ =>
                  refine Reg.Ob.geff rfl rfl (fun rs wx hs hd => rfl) ?_
                  intro rs wx r hs hd hn hl hk K hK
                  have e48 : (r.tmps[48]?).getD undef = .pointer (some ⟨lb, 0, none⟩) := hk 48 (by decide)
                  have e49 : (r.tmps[49]?).getD undef = .string n := hk 49 (by decide)
                  have e54 : (r.tmps[54]?).getD undef = .slice AX tx.length cX := hk 54 (by decide)
                  obtain ⟨n0, D0, hn0, hl0⟩ := hs.1.old hn
                  have C := set_any hl0 (HT.out.later hs.1.below) n (HZN.out.1) (.slice AX tx.length cX) tx (HTX.out.2.1.below hs.1.below) HZN.out.2.1 HZN.out.2.2 (by have := HK.out.1; have := HZ.out.2.1; omega) hs.1.below.size
                  rw [HX2.out.1, HX2.out.2.1] at C
                  have hmb := hl0.cells_ne hs.1.box (by decide)
                  have HC := Lib.hid (And.intro C (And.intro hmb (And.intro hn0 hl0.lo)))
                  clear C hmb hn0 hl0
                  have HS := Lib.hid hs
                  have HN' := Lib.hid hn
                  have HL := Lib.hid hl
                  have HKK := Lib.hid hK
                  clear hs hn hd hl hk hK
                  go_simp
                  refine HC.out.1.mono ?_
                  rintro e w5 ⟨rfl, n1, D1, hn1, hl1, hg1⟩
                  refine HKK.out _ _ ⟨⟨HS.out.1.below.grown hg1 HS.out.1.below.size (fun j hj => (by cases hj; exact HC.out.2.2.2.2)), blk_grown HS.out.1.box hg1 (by intro e; cases e; exact HC.out.2.1.2 rfl), fun h => (by simp [Reg.upd] at h), fun u hu => ?_, fun u hu => ?_, fun u hu => ?_⟩, ?_, ?_⟩
                  · have h2 : some (Value.int .i64 c) = some u := hu
                    cases h2
                    exact ⟨rfl, n1, D1, by have := HC.out.2.2.1; omega, hl1⟩
                  · have : rs 26 = some u := by simpa [Reg.upd] using hu
                    rw [HS.out.2.1] at this
                    cases this
                  · have : rs 32 = some u := by simpa [Reg.upd] using hu
                    rw [HS.out.2.2] at this
                    cases this
                  · simpa [Reg.upd] using HS.out.2.1
                  · simpa [Reg.upd] using HS.out.2.2
                | 21, _ => exact Reg.Ob.guarded rfl rfl (fun rs => .bool true) (fun _ => rfl) (fun rs wx hs hd => rfl) (fun rs wx r hs hd hl hk => by
                    have e55 : (r.tmps[55]?).getD undef = ((rs 20).getD undef) := hk 55 (by decide)
                    obtain ⟨u20, hu20⟩ := hd 20 (by decide) (by decide)
                    obtain ⟨rfl, _⟩ := hs.1.new u20 hu20
                    rw [hu20] at e55
                    simp only [Option.getD_some] at e55
                    clear hu20
                    go_simp)
                | 22, _ => exact Reg.Ob.pure rfl rfl rfl (fun rs => .bool true) (fun _ => rfl) (fun rs wx r hs hd hl hk => by
                    have e47 : (r.tmps[47]?).getD undef = .bool false := hk 47 (by decide)
                    have e56 : (r.tmps[56]?).getD undef = .bool true := hk 56 (by decide)
                    go_simp)
                | 23, _ => exact Reg.Ob.pure rfl rfl rfl (fun rs => .bool true) (fun _ => rfl) (fun rs wx r hs hd hl hk => by
                    have e57 : (r.tmps[57]?).getD undef = .bool true := hk 57 (by decide)
                    go_simp)
                | 24, _ => exact Reg.Ob.skip rfl rfl (fun _ => rfl) (fun rs wx hs hd => rfl)
                | 25, _ => exact Reg.Ob.skip rfl rfl (fun _ => rfl) (fun rs wx hs hd => rfl)
                | 26, _ => exact Reg.Ob.skip rfl rfl (fun _ => rfl) (fun rs wx hs hd => rfl)
                | 27, _ => exact Reg.Ob.skip rfl rfl (fun _ => rfl) (fun rs wx hs hd => rfl)
                | 28, _ => exact Reg.Ob.skip rfl rfl (fun _ => rfl) (fun rs wx hs hd => rfl)
                | 29, _ => exact Reg.Ob.skip rfl rfl (fun _ => rfl) (fun rs wx hs hd => rfl)
                | 30, _ => exact Reg.Ob.skip rfl rfl (fun _ => rfl) (fun rs wx hs hd => rfl)
                | 31, _ => exact Reg.Ob.skip rfl rfl (fun _ => rfl) (fun rs wx hs hd => rfl)
                | 32, _ => exact Reg.Ob.skip rfl rfl (fun _ => rfl) (fun rs wx hs hd => rfl)
                | 33, _ => exact Reg.Ob.skip rfl rfl (fun _ => rfl) (fun rs wx hs hd => rfl)
                | 34, _ => exact Reg.Ob.pure rfl rfl rfl (fun rs => .bool true) (fun _ => rfl) (fun rs wx r hs hd hl hk => by
                    have e58 : (r.tmps[58]?).getD undef = .bool true := hk 58 (by decide)
                    have e68 : (r.tmps[68]?).getD undef = undef := hk 68 (by decide)
                    go_simp)
                | n + 35, h => exact absurd h (by simp <;> omega)
              case h0 =>
                exact ⟨⟨HX.out.1.drew, HX.out.2.1, fun _ => (let ⟨n, D, a, b⟩ := HX.out.2.2.1; ⟨n, D, a, b.below (below_drewNs wr 1)⟩), fun u hu => (by cases hu), fun u hu => (by cases hu), fun u hu => (by cases hu)⟩, rfl, rfl⟩
              case hend =>
                intro rs wx hs hd
                obtain ⟨u20, hu20⟩ := hd 20 (by decide) (by decide)
                obtain ⟨rfl, _⟩ := hs.1.new u20 hu20
                simp only [List.foldl_cons, List.foldl_nil, Act.put, List.setIfInBounds_toArray, List.set_cons_zero, List.set_cons_succ]
                rw [hu20]
                simp only [Option.getD_some]
                have HE := Lib.hid hs.1.below
                clear hs hd hu20
                go_wp2_with fail
                go_ret2
                exact ⟨HE.out, .inl ⟨HNN.out, rfl⟩⟩
          · have t5 : decide (0 < (k : Int)) = true := by simp; omega
            obtain ⟨kp, hkp⟩ : ∃ kp, k = kp + 1 := ⟨k - 1, by omega⟩
            have hpl : kp < ns.length := by have := HTX.out.2.2.2; omega
            obtain ⟨p, hp⟩ : ∃ p, ns[kp]? = some p := ⟨_, List.getElem?_eq_getElem hpl⟩
            have hw1 : IntKind.i64.wrap ((k : Int) - 1) = (kp : Int) := by rw [IntWalk.i64_in _ (by have := HK.out.1; have := HZ.out.2.1; omega)]; omega
            have t7 : (0 : Int) ≤ (kp : Int) := by omega
            have t8 : (kp : Int) < (ns.length : Int) := by omega
            have yp : w.cell? ⟨bN, oN + kp, none⟩ = some (.string p) := by
              obtain ⟨b', o', e, _, _, y⟩ := HN.out.at hpl
              cases e
              rw [List.getElem?_eq_getElem hpl] at hp
              rw [y, Option.some.inj hp]
            have hpv : prevN ns k = some p := by unfold prevN; rw [if_neg hk0, hkp]; exact hp
            obtain ⟨lt, hlt0⟩ : ∃ b, Op.bytesLess p.toList n.toList = b := ⟨_, rfl⟩
            have hnu : notUp (prevN ns k) n = !lt := by rw [hpv]; unfold notUp; simp only; rw [show Srt.ltS p n = lt from hlt0]
            have HU := Lib.hid hnu
            have HK0 : Hid (0 < k) := Lib.hid (by omega)
            clear hnu hpv hp hkp hpl hk0
            cases lt with
            | false =>
              have HNN : Hid (RES = none) := Lib.hid (HNONE.out (by rw [HST2.out, HU.out]; rfl))
              go_wp2_with fail
              clear y0 y1 y2 y3 y4 yN
              refine Reg.wp_region_puts (A := [[], [0], [1, 0], [2, 1, 0], [3, 2, 1, 0], [2, 1, 0], [5, 2, 1, 0], [4, 3, 2, 1, 0, 6, 5], [7, 4, 3, 2, 1, 0, 6, 5], [2, 1, 0], [8, 7, 4, 3, 2, 1, 0, 6, 5, 9], [2, 1, 0, 10, 8, 7, 4, 3, 6, 5, 9], [11, 2, 1, 0, 10, 8, 7, 4, 3, 6, 5, 9], [12, 11, 2, 1, 0, 10, 8, 7, 4, 3, 6, 5, 9], [12, 11, 2, 1, 0, 10, 8, 7, 4, 3, 6, 5, 9], [12, 11, 2, 1, 0, 10, 8, 7, 4, 3, 6, 5, 9], [15, 12, 11, 2, 1, 0, 10, 8, 7, 4, 3, 6, 5, 9], [12, 11, 2, 1, 0, 10, 8, 7, 4, 3, 6, 5, 9], [16, 15, 12, 11, 2, 1, 0, 10, 8, 7, 4, 3, 6, 5, 9, 17], [18, 16, 15, 12, 11, 2, 1, 0, 10, 8, 7, 4, 3, 6, 5, 9, 17], [13, 12, 11, 2, 1, 0, 10, 8, 7, 4, 3, 6, 5, 9, 14, 19, 18, 16, 15, 17], [20, 13, 12, 11, 2, 1, 0, 10, 8, 7, 4, 3, 6, 5, 9, 14, 19, 18, 16, 15, 17], [12, 11, 2, 1, 0, 10, 8, 7, 4, 3, 6, 5, 9, 21, 20, 13, 14, 19, 18, 16, 15, 17], [22, 12, 11, 2, 1, 0, 10, 8, 7, 4, 3, 6, 5, 9, 21, 20, 13, 14, 19, 18, 16, 15, 17], [23, 22, 12, 11, 2, 1, 0, 10, 8, 7, 4, 3, 6, 5, 9, 21, 20, 13, 14, 19, 18, 16, 15, 17], [23, 22, 12, 11, 2, 1, 0, 10, 8, 7, 4, 3, 6, 5, 9, 21, 20, 13, 14, 19, 18, 16, 15, 17], [24, 23, 22, 12, 11, 2, 1, 0, 10, 8, 7, 4, 3, 6, 5, 9, 21, 20, 13, 14, 19, 18, 16, 15, 17, 25], [23, 22, 12, 11, 2, 1, 0, 10, 8, 7, 4, 3, 6, 5, 9, 21, 20, 13, 14, 19, 18, 16, 15, 17], [27, 23, 22, 12, 11, 2, 1, 0, 10, 8, 7, 4, 3, 6, 5, 9, 21, 20, 13, 14, 19, 18, 16, 15, 17], [23, 22, 12, 11, 2, 1, 0, 10, 8, 7, 4, 3, 6, 5, 9, 21, 20, 13, 14, 19, 18, 16, 15, 17], [28, 27, 23, 22, 12, 11, 2, 1, 0, 10, 8, 7, 4, 3, 6, 5, 9, 21, 20, 13, 14, 19, 18, 16, 15, 17, 29], [30, 28, 27, 23, 22, 12, 11, 2, 1, 0, 10, 8, 7, 4, 3, 6, 5, 9, 21, 20, 13, 14, 19, 18, 16, 15, 17, 29], [26, 24, 23, 22, 12, 11, 2, 1, 0, 10, 8, 7, 4, 3, 6, 5, 9, 21, 20, 13, 14, 19, 18, 16, 15, 17, 25, 31, 30, 28, 27, 29], [32, 26, 24, 23, 22, 12, 11, 2, 1, 0, 10, 8, 7, 4, 3, 6, 5, 9, 21, 20, 13, 14, 19, 18, 16, 15, 17, 25, 31, 30, 28, 27, 29], [23, 22, 12, 11, 2, 1, 0, 10, 8, 7, 4, 3, 6, 5, 9, 21, 20, 13, 14, 19, 18, 16, 15, 17, 33, 32, 26, 24, 25, 31, 30, 28, 27, 29]]) (effs := []) (N := 77)
                (val := fun i r => match i with | 0 => .int .i64 k | 1 => .bool true | 2 => .bool true | 3 => .pointer (some ⟨w.heap.size, 3, none⟩) | 4 => .slice (some ⟨bN, oN, none⟩) ns.length cN | 5 => .int .i64 k | 6 => .int .i64 (kp : Nat) | 7 => .pointer (some ⟨bN, oN + kp, none⟩) | 8 => .string p | 9 => .string n | 10 => .bool true | 11 => .bool true | 12 => .bool true | 13 => undef | 14 => undef | 15 => undef | 16 => undef | 17 => undef | 18 => undef | 19 => undef | 20 => undef | 21 => undef | 22 => .bool true | 23 => .bool true | 24 => undef | 25 => undef | 26 => undef | 27 => undef | 28 => undef | 29 => undef | 30 => undef | 31 => undef | 32 => undef | 33 => undef | 34 => .bool true | _ => undef)
                (Stage := fun rs wx => LdSt w wx (.cells #[.int .i64 sl, .int .i64 sr, .string sd, .slice (some ⟨bN, oN, none⟩) ns.length cN, .slice (some ⟨bT, oT, none⟩) tss.length cT] 38) lb mb k L X c tw eq rs ∧ rs 26 = none ∧ rs 32 = none)
                (fun rs => [(some 35, .int .i64 k), (some 36, .bool true), (some 37, .bool true), (some 38, .pointer (some ⟨w.heap.size, 3, none⟩)), (some 39, .slice (some ⟨bN, oN, none⟩) ns.length cN), (some 40, .int .i64 k), (some 41, .int .i64 (kp : Nat)), (some 42, .pointer (some ⟨bN, oN + kp, none⟩)), (some 43, .string p), (some 44, .string n), (some 45, .bool true), (some 46, .bool true), (some 47, .bool true), (some 48, undef), (some 49, undef), (some 50, undef), (some 51, undef), (some 52, undef), (some 53, undef), (some 54, undef), (some 55, undef), (some 56, undef), (some 57, .bool true), (some 58, .bool true), (some 59, undef), (some 60, undef), (some 61, undef), (some 62, undef), (some 63, undef), (some 64, undef), (some 65, undef), (some 66, undef), (some 67, undef), (some 68, undef), (some 69, .bool true)])
                (by kernel_rfl) (by kernel_rfl) rfl (fun _ => rfl) ?h0 ?hob ?hend
              case hob =>
                intro i hi
                match i, hi with
                | 0, _ => exact Reg.Ob.pure rfl rfl rfl (fun rs => .int .i64 k) (fun _ => rfl) (fun rs wx r hs hd hl hk => by
                    have e6 : (r.tmps[6]?).getD undef = .int .i64 k := hk 6 (by decide)
                    go_simp)
                | 1, _ => exact Reg.Ob.pure rfl rfl rfl (fun rs => .bool true) (fun _ => rfl) (fun rs wx r hs hd hl hk => by
                    have e35 : (r.tmps[35]?).getD undef = .int .i64 k := hk 35 (by decide)
                    have t9 := HK0.out
                    go_simp)
                | 2, _ => exact Reg.Ob.pure rfl rfl rfl (fun rs => .bool true) (fun _ => rfl) (fun rs wx r hs hd hl hk => by
                    have e36 : (r.tmps[36]?).getD undef = .bool true := hk 36 (by decide)
                    go_simp)
                | 3, _ => exact Reg.Ob.guarded rfl rfl (fun rs => .pointer (some ⟨w.heap.size, 3, none⟩)) (fun _ => rfl) (fun rs wx hs hd => rfl) (fun rs wx r hs hd hl hk => by
                    have e1 : (r.tmps[1]?).getD undef = .pointer (some ⟨w.heap.size, 0, none⟩) := hk 1 (by decide)
                    go_simp)
                | 4, _ => exact Reg.Ob.guarded rfl rfl (fun rs => .slice (some ⟨bN, oN, none⟩) ns.length cN) (fun _ => rfl) (fun rs wx hs hd => rfl) (fun rs wx r hs hd hl hk => by
                    have e38 : (r.tmps[38]?).getD undef = .pointer (some ⟨w.heap.size, 3, none⟩) := hk 38 (by decide)
                    have c : wx.cell? ⟨w.heap.size, 3, none⟩ = some (.slice (some ⟨bN, oN, none⟩) ns.length cN) := blk_cell hs.1.box 3
                    go_simp)
                | 5, _ => exact Reg.Ob.guarded rfl rfl (fun rs => .int .i64 k) (fun _ => rfl) (fun rs wx hs hd => rfl) (fun rs wx r hs hd hl hk => by
                    have e6 : (r.tmps[6]?).getD undef = .int .i64 k := hk 6 (by decide)
                    go_simp)
                | 6, _ => exact Reg.Ob.guarded rfl rfl (fun rs => .int .i64 (kp : Nat)) (fun _ => rfl) (fun rs wx hs hd => rfl) (fun rs wx r hs hd hl hk => by
                    have e40 : (r.tmps[40]?).getD undef = .int .i64 k := hk 40 (by decide)
                    go_simp)
                | 7, _ => exact Reg.Ob.guarded rfl rfl (fun rs => .pointer (some ⟨bN, oN + kp, none⟩)) (fun _ => rfl) (fun rs wx hs hd => rfl) (fun rs wx r hs hd hl hk => by
                    have e39 : (r.tmps[39]?).getD undef = .slice (some ⟨bN, oN, none⟩) ns.length cN := hk 39 (by decide)
                    have e41 : (r.tmps[41]?).getD undef = .int .i64 (kp : Nat) := hk 41 (by decide)
                    go_simp)
                | 8, _ => exact Reg.Ob.guarded rfl rfl (fun rs => .string p) (fun _ => rfl) (fun rs wx hs hd => rfl) (fun rs wx r hs hd hl hk => by
                    have e42 : (r.tmps[42]?).getD undef = .pointer (some ⟨bN, oN + kp, none⟩) := hk 42 (by decide)
                    have c : wx.cell? ⟨bN, oN + kp, none⟩ = some (.string p) := (hs.1.below.cell (p := ⟨bN, oN + kp, none⟩) hbN).trans yp
                    go_simp)
                | 9, _ => exact Reg.Ob.guarded rfl rfl (fun rs => .string n) (fun _ => rfl) (fun rs wx hs hd => rfl) (fun rs wx r hs hd hl hk => by
                    have e7 : (r.tmps[7]?).getD undef = .string n := hk 7 (by decide)
                    go_simp)
                | 10, _ => exact Reg.Ob.guarded rfl rfl (fun rs => .bool true) (fun _ => rfl) (fun rs wx hs hd => rfl) (fun rs wx r hs hd hl hk => by
                    have e43 : (r.tmps[43]?).getD undef = .string p := hk 43 (by decide)
                    have e44 : (r.tmps[44]?).getD undef = .string n := hk 44 (by decide)
                    go_simp)
                | 11, _ => exact Reg.Ob.pure rfl rfl rfl (fun rs => .bool true) (fun _ => rfl) (fun rs wx r hs hd hl hk => by
                    have e37 : (r.tmps[37]?).getD undef = .bool true := hk 37 (by decide)
                    have e45 : (r.tmps[45]?).getD undef = .bool true := hk 45 (by decide)
                    go_simp)
                | 12, _ => exact Reg.Ob.pure rfl rfl rfl (fun rs => .bool true) (fun _ => rfl) (fun rs wx r hs hd hl hk => by
                    have e46 : (r.tmps[46]?).getD undef = .bool true := hk 46 (by decide)
                    go_simp)
                | 13, _ => exact Reg.Ob.skip rfl rfl (fun _ => rfl) (fun rs wx hs hd => rfl)
                | 14, _ => exact Reg.Ob.skip rfl rfl (fun _ => rfl) (fun rs wx hs hd => rfl)
                | 15, _ => exact Reg.Ob.skip rfl rfl (fun _ => rfl) (fun rs wx hs hd => rfl)
                | 16, _ => exact Reg.Ob.skip rfl rfl (fun _ => rfl) (fun rs wx hs hd => rfl)
                | 17, _ => exact Reg.Ob.skip rfl rfl (fun _ => rfl) (fun rs wx hs hd => rfl)
                | 18, _ => exact Reg.Ob.skip rfl rfl (fun _ => rfl) (fun rs wx hs hd => rfl)
                | 19, _ => exact Reg.Ob.skip rfl rfl (fun _ => rfl) (fun rs wx hs hd => rfl)
                | 20, _ => exact Reg.Ob.skip rfl rfl (fun _ => rfl) (fun rs wx hs hd => rfl)
                | 21, _ => exact Reg.Ob.skip rfl rfl (fun _ => rfl) (fun rs wx hs hd => rfl)
                | 22, _ => exact Reg.Ob.pure rfl rfl rfl (fun rs => .bool true) (fun _ => rfl) (fun rs wx r hs hd hl hk => by
                    have e47 : (r.tmps[47]?).getD undef = .bool true := hk 47 (by decide)
                    have e56 : (r.tmps[56]?).getD undef = undef := hk 56 (by decide)
                    go_simp)
                | 23, _ => exact Reg.Ob.pure rfl rfl rfl (fun rs => .bool true) (fun _ => rfl) (fun rs wx r hs hd hl hk => by
                    have e57 : (r.tmps[57]?).getD undef = .bool true := hk 57 (by decide)
                    go_simp)
                | 24, _ => exact Reg.Ob.skip rfl rfl (fun _ => rfl) (fun rs wx hs hd => rfl)
                | 25, _ => exact Reg.Ob.skip rfl rfl (fun _ => rfl) (fun rs wx hs hd => rfl)
                | 26, _ => exact Reg.Ob.skip rfl rfl (fun _ => rfl) (fun rs wx hs hd => rfl)
                | 27, _ => exact Reg.Ob.skip rfl rfl (fun _ => rfl) (fun rs wx hs hd => rfl)
                | 28, _ => exact Reg.Ob.skip rfl rfl (fun _ => rfl) (fun rs wx hs hd => rfl)
                | 29, _ => exact Reg.Ob.skip rfl rfl (fun _ => rfl) (fun rs wx hs hd => rfl)
                | 30, _ => exact Reg.Ob.skip rfl rfl (fun _ => rfl) (fun rs wx hs hd => rfl)
                | 31, _ => exact Reg.Ob.skip rfl rfl (fun _ => rfl) (fun rs wx hs hd => rfl)
                | 32, _ => exact Reg.Ob.skip rfl rfl (fun _ => rfl) (fun rs wx hs hd => rfl)
                | 33, _ => exact Reg.Ob.skip rfl rfl (fun _ => rfl) (fun rs wx hs hd => rfl)
                | 34, _ => exact Reg.Ob.pure rfl rfl rfl (fun rs => .bool true) (fun _ => rfl) (fun rs wx r hs hd hl hk => by
                    have e58 : (r.tmps[58]?).getD undef = .bool true := hk 58 (by decide)
                    have e68 : (r.tmps[68]?).getD undef = undef := hk 68 (by decide)
                    go_simp)
                | n + 35, h => exact absurd h (by simp <;> omega)
              case h0 =>
                exact ⟨⟨HX.out.1.drew, HX.out.2.1, fun _ => (let ⟨n, D, a, b⟩ := HX.out.2.2.1; ⟨n, D, a, b.below (below_drewNs wr 1)⟩), fun u hu => (by cases hu), fun u hu => (by cases hu), fun u hu => (by cases hu)⟩, rfl, rfl⟩
              case hend =>
                intro rs wx hs hd
                simp only [List.foldl_cons, List.foldl_nil, Act.put, List.setIfInBounds_toArray, List.set_cons_zero, List.set_cons_succ]
                have HE := Lib.hid hs.1.below
                clear hs hd
                go_wp2_with fail
                go_ret2
                exact ⟨HE.out, .inl ⟨HNN.out, rfl⟩⟩
            | true =>
              by_cases hc0 : c = 0
              · have HNONE0 := HNONE
                subst hc0
                clear HNONE
                have HNN : Hid (tw ≠ tx → RES = none) := Lib.hid (fun h => HNONE0.out (by rw [HST2.out, (show notUp (prevN ns k) n = false from HU.out), if_neg (by decide), if_neg (by simp), if_neg h]))
                have HNX : Hid (tw = tx → uptoL (LS.new sl sr) ns tss (k + 1) = some X) := Lib.hid (fun h => by rw [HST2.out, (show notUp (prevN ns k) n = false from HU.out), if_neg (by decide), if_neg (by simp), if_pos h])
                go_wp2_with fail
                clear y0 y1 y2 y3 y4 yN
                refine Reg.wp_region_puts (A := [[], [0], [1, 0], [2, 1, 0], [3, 2, 1, 0], [2, 1, 0], [5, 2, 1, 0], [4, 3, 2, 1, 0, 6, 5], [7, 4, 3, 2, 1, 0, 6, 5], [2, 1, 0], [8, 7, 4, 3, 2, 1, 0, 6, 5, 9], [2, 1, 0, 10, 8, 7, 4, 3, 6, 5, 9], [11, 2, 1, 0, 10, 8, 7, 4, 3, 6, 5, 9], [12, 11, 2, 1, 0, 10, 8, 7, 4, 3, 6, 5, 9], [12, 11, 2, 1, 0, 10, 8, 7, 4, 3, 6, 5, 9], [12, 11, 2, 1, 0, 10, 8, 7, 4, 3, 6, 5, 9], [15, 12, 11, 2, 1, 0, 10, 8, 7, 4, 3, 6, 5, 9], [12, 11, 2, 1, 0, 10, 8, 7, 4, 3, 6, 5, 9], [16, 15, 12, 11, 2, 1, 0, 10, 8, 7, 4, 3, 6, 5, 9, 17], [18, 16, 15, 12, 11, 2, 1, 0, 10, 8, 7, 4, 3, 6, 5, 9, 17], [13, 12, 11, 2, 1, 0, 10, 8, 7, 4, 3, 6, 5, 9, 14, 19, 18, 16, 15, 17], [20, 13, 12, 11, 2, 1, 0, 10, 8, 7, 4, 3, 6, 5, 9, 14, 19, 18, 16, 15, 17], [12, 11, 2, 1, 0, 10, 8, 7, 4, 3, 6, 5, 9, 21, 20, 13, 14, 19, 18, 16, 15, 17], [22, 12, 11, 2, 1, 0, 10, 8, 7, 4, 3, 6, 5, 9, 21, 20, 13, 14, 19, 18, 16, 15, 17], [23, 22, 12, 11, 2, 1, 0, 10, 8, 7, 4, 3, 6, 5, 9, 21, 20, 13, 14, 19, 18, 16, 15, 17], [23, 22, 12, 11, 2, 1, 0, 10, 8, 7, 4, 3, 6, 5, 9, 21, 20, 13, 14, 19, 18, 16, 15, 17], [24, 23, 22, 12, 11, 2, 1, 0, 10, 8, 7, 4, 3, 6, 5, 9, 21, 20, 13, 14, 19, 18, 16, 15, 17, 25], [23, 22, 12, 11, 2, 1, 0, 10, 8, 7, 4, 3, 6, 5, 9, 21, 20, 13, 14, 19, 18, 16, 15, 17], [27, 23, 22, 12, 11, 2, 1, 0, 10, 8, 7, 4, 3, 6, 5, 9, 21, 20, 13, 14, 19, 18, 16, 15, 17], [23, 22, 12, 11, 2, 1, 0, 10, 8, 7, 4, 3, 6, 5, 9, 21, 20, 13, 14, 19, 18, 16, 15, 17], [28, 27, 23, 22, 12, 11, 2, 1, 0, 10, 8, 7, 4, 3, 6, 5, 9, 21, 20, 13, 14, 19, 18, 16, 15, 17, 29], [30, 28, 27, 23, 22, 12, 11, 2, 1, 0, 10, 8, 7, 4, 3, 6, 5, 9, 21, 20, 13, 14, 19, 18, 16, 15, 17, 29], [26, 24, 23, 22, 12, 11, 2, 1, 0, 10, 8, 7, 4, 3, 6, 5, 9, 21, 20, 13, 14, 19, 18, 16, 15, 17, 25, 31, 30, 28, 27, 29], [32, 26, 24, 23, 22, 12, 11, 2, 1, 0, 10, 8, 7, 4, 3, 6, 5, 9, 21, 20, 13, 14, 19, 18, 16, 15, 17, 25, 31, 30, 28, 27, 29], [23, 22, 12, 11, 2, 1, 0, 10, 8, 7, 4, 3, 6, 5, 9, 21, 20, 13, 14, 19, 18, 16, 15, 17, 33, 32, 26, 24, 25, 31, 30, 28, 27, 29]]) (effs := [20, 26, 32]) (N := 77)
                  (val := fun i r => match i with | 0 => .int .i64 k | 1 => .bool true | 2 => .bool true | 3 => .pointer (some ⟨w.heap.size, 3, none⟩) | 4 => .slice (some ⟨bN, oN, none⟩) ns.length cN | 5 => .int .i64 k | 6 => .int .i64 (kp : Nat) | 7 => .pointer (some ⟨bN, oN + kp, none⟩) | 8 => .string p | 9 => .string n | 10 => .bool false | 11 => .bool false | 12 => .bool false | 13 => .pointer (some ⟨lb, 0, none⟩) | 14 => .string n | 15 => .pointer (some ⟨w.heap.size, 4, none⟩) | 16 => .slice (some ⟨bT, oT, none⟩) tss.length cT | 17 => .int .i64 k | 18 => .pointer (some ⟨bT, oT + k, none⟩) | 19 => .slice AX tx.length cX | 21 => .bool false | 22 => .bool false | 23 => .bool false | 24 => .pointer (some ⟨lb, 0, none⟩) | 25 => .string n | 27 => .pointer (some ⟨w.heap.size, 4, none⟩) | 28 => .slice (some ⟨bT, oT, none⟩) tss.length cT | 29 => .int .i64 k | 30 => .pointer (some ⟨bT, oT + k, none⟩) | 31 => .slice AX tx.length cX | 33 => .bool (!eq) | 34 => .bool (!eq) | _ => undef)
                  (Stage := fun rs wx => LdSt w wx (.cells #[.int .i64 sl, .int .i64 sr, .string sd, .slice (some ⟨bN, oN, none⟩) ns.length cN, .slice (some ⟨bT, oT, none⟩) tss.length cT] 38) lb mb k L X 0 tw eq rs)
                  (fun rs => [(some 35, .int .i64 k), (some 36, .bool true), (some 37, .bool true), (some 38, .pointer (some ⟨w.heap.size, 3, none⟩)), (some 39, .slice (some ⟨bN, oN, none⟩) ns.length cN), (some 40, .int .i64 k), (some 41, .int .i64 (kp : Nat)), (some 42, .pointer (some ⟨bN, oN + kp, none⟩)), (some 43, .string p), (some 44, .string n), (some 45, .bool false), (some 46, .bool false), (some 47, .bool false), (some 48, .pointer (some ⟨lb, 0, none⟩)), (some 49, .string n), (some 50, .pointer (some ⟨w.heap.size, 4, none⟩)), (some 51, .slice (some ⟨bT, oT, none⟩) tss.length cT), (some 52, .int .i64 k), (some 53, .pointer (some ⟨bT, oT + k, none⟩)), (some 54, .slice AX tx.length cX), (some 55, (rs 20).getD undef), (some 56, .bool false), (some 57, .bool false), (some 58, .bool false), (some 59, .pointer (some ⟨lb, 0, none⟩)), (some 60, .string n), (some 61, (rs 26).getD undef), (some 62, .pointer (some ⟨w.heap.size, 4, none⟩)), (some 63, .slice (some ⟨bT, oT, none⟩) tss.length cT), (some 64, .int .i64 k), (some 65, .pointer (some ⟨bT, oT + k, none⟩)), (some 66, .slice AX tx.length cX), (some 67, (rs 32).getD undef), (some 68, .bool (!eq)), (some 69, .bool (!eq))])
                  (by kernel_rfl) (by kernel_rfl) rfl (fun _ => rfl) ?h0 ?hob ?hend
                case hob =>
                  intro i hi
                  match i, hi with
                  | 0, _ => exact Reg.Ob.pure rfl rfl rfl (fun rs => .int .i64 k) (fun _ => rfl) (fun rs wx r hs hd hl hk => by
                      have e6 : (r.tmps[6]?).getD undef = .int .i64 k := hk 6 (by decide)
                      go_simp)
                  | 1, _ => exact Reg.Ob.pure rfl rfl rfl (fun rs => .bool true) (fun _ => rfl) (fun rs wx r hs hd hl hk => by
                      have e35 : (r.tmps[35]?).getD undef = .int .i64 k := hk 35 (by decide)
                      have t9 := HK0.out
                      go_simp)
                  | 2, _ => exact Reg.Ob.pure rfl rfl rfl (fun rs => .bool true) (fun _ => rfl) (fun rs wx r hs hd hl hk => by
                      have e36 : (r.tmps[36]?).getD undef = .bool true := hk 36 (by decide)
                      go_simp)
                  | 3, _ => exact Reg.Ob.guarded rfl rfl (fun rs => .pointer (some ⟨w.heap.size, 3, none⟩)) (fun _ => rfl) (fun rs wx hs hd => rfl) (fun rs wx r hs hd hl hk => by
                      have e1 : (r.tmps[1]?).getD undef = .pointer (some ⟨w.heap.size, 0, none⟩) := hk 1 (by decide)
                      go_simp)
                  | 4, _ => exact Reg.Ob.guarded rfl rfl (fun rs => .slice (some ⟨bN, oN, none⟩) ns.length cN) (fun _ => rfl) (fun rs wx hs hd => rfl) (fun rs wx r hs hd hl hk => by
                      have e38 : (r.tmps[38]?).getD undef = .pointer (some ⟨w.heap.size, 3, none⟩) := hk 38 (by decide)
                      have c : wx.cell? ⟨w.heap.size, 3, none⟩ = some (.slice (some ⟨bN, oN, none⟩) ns.length cN) := blk_cell hs.box 3
                      go_simp)
                  | 5, _ => exact Reg.Ob.guarded rfl rfl (fun rs => .int .i64 k) (fun _ => rfl) (fun rs wx hs hd => rfl) (fun rs wx r hs hd hl hk => by
                      have e6 : (r.tmps[6]?).getD undef = .int .i64 k := hk 6 (by decide)
                      go_simp)
                  | 6, _ => exact Reg.Ob.guarded rfl rfl (fun rs => .int .i64 (kp : Nat)) (fun _ => rfl) (fun rs wx hs hd => rfl) (fun rs wx r hs hd hl hk => by
                      have e40 : (r.tmps[40]?).getD undef = .int .i64 k := hk 40 (by decide)
                      go_simp)
                  | 7, _ => exact Reg.Ob.guarded rfl rfl (fun rs => .pointer (some ⟨bN, oN + kp, none⟩)) (fun _ => rfl) (fun rs wx hs hd => rfl) (fun rs wx r hs hd hl hk => by
                      have e39 : (r.tmps[39]?).getD undef = .slice (some ⟨bN, oN, none⟩) ns.length cN := hk 39 (by decide)
                      have e41 : (r.tmps[41]?).getD undef = .int .i64 (kp : Nat) := hk 41 (by decide)
                      go_simp)
                  | 8, _ => exact Reg.Ob.guarded rfl rfl (fun rs => .string p) (fun _ => rfl) (fun rs wx hs hd => rfl) (fun rs wx r hs hd hl hk => by
                      have e42 : (r.tmps[42]?).getD undef = .pointer (some ⟨bN, oN + kp, none⟩) := hk 42 (by decide)
                      have c : wx.cell? ⟨bN, oN + kp, none⟩ = some (.string p) := (hs.below.cell (p := ⟨bN, oN + kp, none⟩) hbN).trans yp
                      go_simp)
                  | 9, _ => exact Reg.Ob.guarded rfl rfl (fun rs => .string n) (fun _ => rfl) (fun rs wx hs hd => rfl) (fun rs wx r hs hd hl hk => by
                      have e7 : (r.tmps[7]?).getD undef = .string n := hk 7 (by decide)
                      go_simp)
                  | 10, _ => exact Reg.Ob.guarded rfl rfl (fun rs => .bool false) (fun _ => rfl) (fun rs wx hs hd => rfl) (fun rs wx r hs hd hl hk => by
                      have e43 : (r.tmps[43]?).getD undef = .string p := hk 43 (by decide)
                      have e44 : (r.tmps[44]?).getD undef = .string n := hk 44 (by decide)
                      go_simp)
                  | 11, _ => exact Reg.Ob.pure rfl rfl rfl (fun rs => .bool false) (fun _ => rfl) (fun rs wx r hs hd hl hk => by
                      have e37 : (r.tmps[37]?).getD undef = .bool true := hk 37 (by decide)
                      have e45 : (r.tmps[45]?).getD undef = .bool false := hk 45 (by decide)
                      go_simp)
                  | 12, _ => exact Reg.Ob.pure rfl rfl rfl (fun rs => .bool false) (fun _ => rfl) (fun rs wx r hs hd hl hk => by
                      have e46 : (r.tmps[46]?).getD undef = .bool false := hk 46 (by decide)
                      go_simp)
                  | 13, _ => exact Reg.Ob.guarded rfl rfl (fun rs => .pointer (some ⟨lb, 0, none⟩)) (fun _ => rfl) (fun rs wx hs hd => rfl) (fun rs wx r hs hd hl hk => by
                      have e4 : (r.tmps[4]?).getD undef = .pointer (some ⟨lb, 0, none⟩) := hk 4 (by decide)
                      go_simp)
                  | 14, _ => exact Reg.Ob.guarded rfl rfl (fun rs => .string n) (fun _ => rfl) (fun rs wx hs hd => rfl) (fun rs wx r hs hd hl hk => by
                      have e7 : (r.tmps[7]?).getD undef = .string n := hk 7 (by decide)
                      go_simp)
                  | 15, _ => exact Reg.Ob.guarded rfl rfl (fun rs => .pointer (some ⟨w.heap.size, 4, none⟩)) (fun _ => rfl) (fun rs wx hs hd => rfl) (fun rs wx r hs hd hl hk => by
                      have e1 : (r.tmps[1]?).getD undef = .pointer (some ⟨w.heap.size, 0, none⟩) := hk 1 (by decide)
                      go_simp)
                  | 16, _ => exact Reg.Ob.guarded rfl rfl (fun rs => .slice (some ⟨bT, oT, none⟩) tss.length cT) (fun _ => rfl) (fun rs wx hs hd => rfl) (fun rs wx r hs hd hl hk => by
                      have e50 : (r.tmps[50]?).getD undef = .pointer (some ⟨w.heap.size, 4, none⟩) := hk 50 (by decide)
                      have c : wx.cell? ⟨w.heap.size, 4, none⟩ = some (.slice (some ⟨bT, oT, none⟩) tss.length cT) := blk_cell hs.box 4
                      go_simp)
                  | 17, _ => exact Reg.Ob.guarded rfl rfl (fun rs => .int .i64 k) (fun _ => rfl) (fun rs wx hs hd => rfl) (fun rs wx r hs hd hl hk => by
                      have e6 : (r.tmps[6]?).getD undef = .int .i64 k := hk 6 (by decide)
                      go_simp)
                  | 18, _ => exact Reg.Ob.guarded rfl rfl (fun rs => .pointer (some ⟨bT, oT + k, none⟩)) (fun _ => rfl) (fun rs wx hs hd => rfl) (fun rs wx r hs hd hl hk => by
                      have e51 : (r.tmps[51]?).getD undef = .slice (some ⟨bT, oT, none⟩) tss.length cT := hk 51 (by decide)
                      have e52 : (r.tmps[52]?).getD undef = .int .i64 k := hk 52 (by decide)
                      go_simp)
                  | 19, _ => exact Reg.Ob.guarded rfl rfl (fun rs => .slice AX tx.length cX) (fun _ => rfl) (fun rs wx hs hd => rfl) (fun rs wx r hs hd hl hk => by
                      have e53 : (r.tmps[53]?).getD undef = .pointer (some ⟨bT, oT + k, none⟩) := hk 53 (by decide)
                      have c : wx.cell? ⟨bT, oT + k, none⟩ = some (.slice AX tx.length cX) := (hs.below.cell (p := ⟨bT, oT + k, none⟩) hbT).trans yT
                      go_simp)
                  | 20, _ =>
                    refine Reg.Ob.geff rfl rfl (fun rs wx hs hd => rfl) ?_
                    intro rs wx r hs hd hn hl hk K hK
                    have e48 : (r.tmps[48]?).getD undef = .pointer (some ⟨lb, 0, none⟩) := hk 48 (by decide)
                    have e49 : (r.tmps[49]?).getD undef = .string n := hk 49 (by decide)
                    have e54 : (r.tmps[54]?).getD undef = .slice AX tx.length cX := hk 54 (by decide)
                    obtain ⟨n0, D0, hn0, hl0⟩ := hs.old hn
                    have C := set_any hl0 (HT.out.later hs.below) n (HZN.out.1) (.slice AX tx.length cX) tx (HTX.out.2.1.below hs.below) HZN.out.2.1 HZN.out.2.2 (by have := HK.out.1; have := HZ.out.2.1; omega) hs.below.size
                    rw [HX2.out.1, HX2.out.2.1] at C
                    have hmb := hl0.cells_ne hs.box (by decide)
                    have HC := Lib.hid (And.intro C (And.intro hmb (And.intro hn0 hl0.lo)))
                    clear C hmb hn0 hl0
                    have HS := Lib.hid hs
                    have HN' := Lib.hid hn
                    have HL := Lib.hid hl
                    have HKK := Lib.hid hK
                    clear hs hn hd hl hk hK
                    go_simp
                    refine HC.out.1.mono ?_
                    rintro e w5 ⟨rfl, n1, D1, hn1, hl1, hg1⟩
                    refine HKK.out _ _ ⟨HS.out.below.grown hg1 HS.out.below.size (fun j hj => (by cases hj; exact HC.out.2.2.2.2)), blk_grown HS.out.box hg1 (by intro e; cases e; exact HC.out.2.1.2 rfl), fun h => (by simp [Reg.upd] at h), fun u hu => ?_, ?_, ?_⟩
                    · have h2 : some (Value.int .i64 0) = some u := hu
                      cases h2
                      exact ⟨rfl, n1, D1, by have := HC.out.2.2.1; omega, hl1⟩
                    · intro u hu
                      have : rs 26 = some u := by simpa [Reg.upd] using hu
                      rw [HL.out 26 (by decide)] at this
                      cases this
                    · intro u hu
                      have : rs 32 = some u := by simpa [Reg.upd] using hu
                      rw [HL.out 32 (by decide)] at this
                      cases this
                  | 21, _ => exact Reg.Ob.guarded rfl rfl (fun rs => .bool false) (fun _ => rfl) (fun rs wx hs hd => rfl) (fun rs wx r hs hd hl hk => by
                      have e55 : (r.tmps[55]?).getD undef = ((rs 20).getD undef) := hk 55 (by decide)
                      obtain ⟨u20, hu20⟩ := hd 20 (by decide) (by decide)
                      obtain ⟨rfl, _⟩ := hs.new u20 hu20
                      rw [hu20] at e55
                      simp only [Option.getD_some] at e55
                      clear hu20
                      go_simp)
                  | 22, _ => exact Reg.Ob.pure rfl rfl rfl (fun rs => .bool false) (fun _ => rfl) (fun rs wx r hs hd hl hk => by
                      have e47 : (r.tmps[47]?).getD undef = .bool false := hk 47 (by decide)
                      have e56 : (r.tmps[56]?).getD undef = .bool false := hk 56 (by decide)
                      go_simp)
                  | 23, _ => exact Reg.Ob.pure rfl rfl rfl (fun rs => .bool false) (fun _ => rfl) (fun rs wx r hs hd hl hk => by
                      have e57 : (r.tmps[57]?).getD undef = .bool false := hk 57 (by decide)
                      go_simp)
                  | 24, _ => exact Reg.Ob.guarded rfl rfl (fun rs => .pointer (some ⟨lb, 0, none⟩)) (fun _ => rfl) (fun rs wx hs hd => rfl) (fun rs wx r hs hd hl hk => by
                      have e4 : (r.tmps[4]?).getD undef = .pointer (some ⟨lb, 0, none⟩) := hk 4 (by decide)
                      go_simp)
                  | 25, _ => exact Reg.Ob.guarded rfl rfl (fun rs => .string n) (fun _ => rfl) (fun rs wx hs hd => rfl) (fun rs wx r hs hd hl hk => by
                      have e7 : (r.tmps[7]?).getD undef = .string n := hk 7 (by decide)
                      go_simp)
                  | 26, _ =>
                    refine Reg.Ob.geff rfl rfl (fun rs wx hs hd => rfl) ?_
                    intro rs wx r hs hd hn hl hk K hK
                    have e59 : (r.tmps[59]?).getD undef = .pointer (some ⟨lb, 0, none⟩) := hk 59 (by decide)
                    have e60 : (r.tmps[60]?).getD undef = .string n := hk 60 (by decide)
                    obtain ⟨u20, hu20⟩ := hd 20 (by decide) (by decide)
                    obtain ⟨_, n0, D0, hn0, hl0⟩ := hs.new u20 hu20
                    have C := texts17_any hl0 HX2.out.2.2.2 n (by have := HZN.out.1; unfold maxLen; omega)
                    rw [HX2.out.2.2.1] at C
                    have HC := Lib.hid (And.intro C hu20)
                    clear C hn0 hl0 hu20
                    have HS := Lib.hid hs
                    have HN' := Lib.hid hn
                    have HL := Lib.hid hl
                    have HKK := Lib.hid hK
                    clear hs hn hd hl hk hK
                    go_simp
                    refine HC.out.1.mono ?_
                    rintro e w5 ⟨A5, m5, rfl, ht5, hb5⟩
                    refine HKK.out _ _ ⟨HS.out.below.trans (hb5.mono HS.out.below.size), blk_below HS.out.box hb5 (blk_lt HS.out.box), fun h => ?_, fun u hu => ?_, fun u hu => ?_, ?_⟩
                    · have : rs 20 = none := by simpa [Reg.upd] using h
                      rw [HC.out.2] at this
                      cases this
                    · obtain ⟨e1, n1, D1, e2, e3⟩ := HS.out.new u (by simpa [Reg.upd] using hu)
                      exact ⟨e1, n1, D1, e2, e3.below hb5⟩
                    · have h2 : some (Value.slice A5 tw.length m5) = some u := hu
                      cases h2
                      exact ⟨A5, m5, rfl, ht5.lower HS.out.below.size⟩
                    · intro u hu
                      have : rs 32 = some u := by simpa [Reg.upd] using hu
                      rw [HL.out 32 (by decide)] at this
                      cases this
                  | 27, _ => exact Reg.Ob.guarded rfl rfl (fun rs => .pointer (some ⟨w.heap.size, 4, none⟩)) (fun _ => rfl) (fun rs wx hs hd => rfl) (fun rs wx r hs hd hl hk => by
                      have e1 : (r.tmps[1]?).getD undef = .pointer (some ⟨w.heap.size, 0, none⟩) := hk 1 (by decide)
                      go_simp)
                  | 28, _ => exact Reg.Ob.guarded rfl rfl (fun rs => .slice (some ⟨bT, oT, none⟩) tss.length cT) (fun _ => rfl) (fun rs wx hs hd => rfl) (fun rs wx r hs hd hl hk => by
                      have e62 : (r.tmps[62]?).getD undef = .pointer (some ⟨w.heap.size, 4, none⟩) := hk 62 (by decide)
                      have c : wx.cell? ⟨w.heap.size, 4, none⟩ = some (.slice (some ⟨bT, oT, none⟩) tss.length cT) := blk_cell hs.box 4
                      go_simp)
                  | 29, _ => exact Reg.Ob.guarded rfl rfl (fun rs => .int .i64 k) (fun _ => rfl) (fun rs wx hs hd => rfl) (fun rs wx r hs hd hl hk => by
                      have e6 : (r.tmps[6]?).getD undef = .int .i64 k := hk 6 (by decide)
                      go_simp)
                  | 30, _ => exact Reg.Ob.guarded rfl rfl (fun rs => .pointer (some ⟨bT, oT + k, none⟩)) (fun _ => rfl) (fun rs wx hs hd => rfl) (fun rs wx r hs hd hl hk => by
                      have e63 : (r.tmps[63]?).getD undef = .slice (some ⟨bT, oT, none⟩) tss.length cT := hk 63 (by decide)
                      have e64 : (r.tmps[64]?).getD undef = .int .i64 k := hk 64 (by decide)
                      go_simp)
                  | 31, _ => exact Reg.Ob.guarded rfl rfl (fun rs => .slice AX tx.length cX) (fun _ => rfl) (fun rs wx hs hd => rfl) (fun rs wx r hs hd hl hk => by
                      have e65 : (r.tmps[65]?).getD undef = .pointer (some ⟨bT, oT + k, none⟩) := hk 65 (by decide)
                      have c : wx.cell? ⟨bT, oT + k, none⟩ = some (.slice AX tx.length cX) := (hs.below.cell (p := ⟨bT, oT + k, none⟩) hbT).trans yT
                      go_simp)
                  | 32, _ =>
                    refine Reg.Ob.geff rfl rfl (fun rs wx hs hd => rfl) ?_
                    intro rs wx r hs hd hn hl hk K hK
                    have e61 : (r.tmps[61]?).getD undef = ((rs 26).getD undef) := hk 61 (by decide)
                    have e66 : (r.tmps[66]?).getD undef = .slice AX tx.length cX := hk 66 (by decide)
                    obtain ⟨u26, hu26⟩ := hd 26 (by decide) (by decide)
                    obtain ⟨u20, hu20⟩ := hd 20 (by decide) (by decide)
                    obtain ⟨A5, m5, rfl, ht5⟩ := hs.txt u26 hu26
                    rw [hu26] at e61
                    simp only [Option.getD_some] at e61
                    have C := eq17_any wx (.slice A5 tw.length m5) (.slice AX tx.length cX) tw tx (txt_strs ht5) (HTX.out.2.1.below hs.below)
                    rw [HEQ.out] at C
                    have HC := Lib.hid (And.intro C (And.intro hu20 (And.intro hu26 ht5)))
                    clear C hu20 hu26 ht5
                    have HS := Lib.hid hs
                    have HN' := Lib.hid hn
                    have HL := Lib.hid hl
                    have HKK := Lib.hid hK
                    clear hs hn hd hl hk hK
                    go_simp
                    refine HC.out.1.mono ?_
                    rintro e w5 ⟨rfl, hb5⟩
                    refine HKK.out _ _ ⟨HS.out.below.trans (hb5.mono HS.out.below.size), blk_below HS.out.box hb5 (blk_lt HS.out.box), fun h => ?_, fun u hu => ?_, fun u hu => ?_, fun u hu => ?_⟩
                    · have : rs 20 = none := by simpa [Reg.upd] using h
                      rw [HC.out.2.1] at this
                      cases this
                    · obtain ⟨e1, n1, D1, e2, e3⟩ := HS.out.new u (by simpa [Reg.upd] using hu)
                      exact ⟨e1, n1, D1, e2, e3.below hb5⟩
                    · obtain ⟨A, m, e1, e2⟩ := HS.out.txt u (by simpa [Reg.upd] using hu)
                      exact ⟨A, m, e1, e2.below hb5 (fun j hj => (e2.lt j hj).2)⟩
                    · have h2 : some (Value.bool eq) = some u := hu
                      cases h2
                      rfl
                  | 33, _ => exact Reg.Ob.guarded rfl rfl (fun rs => .bool (!eq)) (fun _ => rfl) (fun rs wx hs hd => rfl) (fun rs wx r hs hd hl hk => by
                      have e67 : (r.tmps[67]?).getD undef = ((rs 32).getD undef) := hk 67 (by decide)
                      obtain ⟨u32, hu32⟩ := hd 32 (by decide) (by decide)
                      obtain rfl := hs.eq u32 hu32
                      rw [hu32] at e67
                      simp only [Option.getD_some] at e67
                      clear hu32
                      go_simp)
                  | 34, _ => exact Reg.Ob.pure rfl rfl rfl (fun rs => .bool (!eq)) (fun _ => rfl) (fun rs wx r hs hd hl hk => by
                      have e58 : (r.tmps[58]?).getD undef = .bool false := hk 58 (by decide)
                      have e68 : (r.tmps[68]?).getD undef = .bool (!eq) := hk 68 (by decide)
                      go_simp)
                  | n + 35, h => exact absurd h (by simp <;> omega)
                case h0 =>
                  exact ⟨HX.out.1.drew, HX.out.2.1, fun _ => (let ⟨n, D, a, b⟩ := HX.out.2.2.1; ⟨n, D, a, b.below (below_drewNs wr 1)⟩), fun u hu => (by cases hu), fun u hu => (by cases hu), fun u hu => (by cases hu)⟩
                case hend =>
                  intro rs wx hs hd
                  obtain ⟨u20, hu20⟩ := hd 20 (by decide) (by decide)
                  obtain ⟨u26, hu26⟩ := hd 26 (by decide) (by decide)
                  obtain ⟨u32, hu32⟩ := hd 32 (by decide) (by decide)
                  obtain ⟨rfl, n1, D1, hn1, hl1⟩ := hs.new u20 hu20
                  obtain ⟨A5, m5, rfl, _⟩ := hs.txt u26 hu26
                  obtain rfl := hs.eq u32 hu32
                  simp only [List.foldl_cons, List.foldl_nil, Act.put, List.setIfInBounds_toArray, List.set_cons_zero, List.set_cons_succ]
                  rw [hu20, hu26, hu32]
                  simp only [Option.getD_some]
                  have HE := Lib.hid (And.intro hs.below (And.intro hs.box (And.intro hn1 hl1)))
                  clear hs hd hu20 hu26 hu32 hn1 hl1
                  cases eq with
                  | false =>
                    have HNE : Hid (RES = none) := Lib.hid (HNN.out (by simpa using HEQ.out))
                    clear HNN HNX HEQ
                    go_wp2_with fail
                    go_ret2
                    exact ⟨HE.out.1, .inl ⟨HNE.out, rfl⟩⟩
                  | true =>
                    have HNE := Lib.hid (HNX.out (by simpa using HEQ.out))
                    clear HNN HNX HEQ
                    go_wp2_with fail
                    go_roundg (ns.length - (k + 1))
                    case measure => have := HK.out.2; have := HTX.out.2.2.2; omega
                    case rel => exact ⟨k + 1, X, by have := HTX.out.2.2.2; omega, rfl, by go_num, HE.out.1, HE.out.2.1, ⟨n1, D1, HE.out.2.2⟩, HNE.out, HX2.out.2.2.2⟩
              · have t6 : (c != 0) = true := by simpa using hc0
                have HNN : Hid (RES = none) := Lib.hid (HNONE.out (by rw [HST2.out, (show notUp (prevN ns k) n = false from HU.out), if_neg (by decide), if_pos hc0]))
                clear hc0
                go_wp2_with fail
                clear y0 y1 y2 y3 y4 yN
                refine Reg.wp_region_puts (A := [[], [0], [1, 0], [2, 1, 0], [3, 2, 1, 0], [2, 1, 0], [5, 2, 1, 0], [4, 3, 2, 1, 0, 6, 5], [7, 4, 3, 2, 1, 0, 6, 5], [2, 1, 0], [8, 7, 4, 3, 2, 1, 0, 6, 5, 9], [2, 1, 0, 10, 8, 7, 4, 3, 6, 5, 9], [11, 2, 1, 0, 10, 8, 7, 4, 3, 6, 5, 9], [12, 11, 2, 1, 0, 10, 8, 7, 4, 3, 6, 5, 9], [12, 11, 2, 1, 0, 10, 8, 7, 4, 3, 6, 5, 9], [12, 11, 2, 1, 0, 10, 8, 7, 4, 3, 6, 5, 9], [15, 12, 11, 2, 1, 0, 10, 8, 7, 4, 3, 6, 5, 9], [12, 11, 2, 1, 0, 10, 8, 7, 4, 3, 6, 5, 9], [16, 15, 12, 11, 2, 1, 0, 10, 8, 7, 4, 3, 6, 5, 9, 17], [18, 16, 15, 12, 11, 2, 1, 0, 10, 8, 7, 4, 3, 6, 5, 9, 17], [13, 12, 11, 2, 1, 0, 10, 8, 7, 4, 3, 6, 5, 9, 14, 19, 18, 16, 15, 17], [20, 13, 12, 11, 2, 1, 0, 10, 8, 7, 4, 3, 6, 5, 9, 14, 19, 18, 16, 15, 17], [12, 11, 2, 1, 0, 10, 8, 7, 4, 3, 6, 5, 9, 21, 20, 13, 14, 19, 18, 16, 15, 17], [22, 12, 11, 2, 1, 0, 10, 8, 7, 4, 3, 6, 5, 9, 21, 20, 13, 14, 19, 18, 16, 15, 17], [23, 22, 12, 11, 2, 1, 0, 10, 8, 7, 4, 3, 6, 5, 9, 21, 20, 13, 14, 19, 18, 16, 15, 17], [23, 22, 12, 11, 2, 1, 0, 10, 8, 7, 4, 3, 6, 5, 9, 21, 20, 13, 14, 19, 18, 16, 15, 17], [24, 23, 22, 12, 11, 2, 1, 0, 10, 8, 7, 4, 3, 6, 5, 9, 21, 20, 13, 14, 19, 18, 16, 15, 17, 25], [23, 22, 12, 11, 2, 1, 0, 10, 8, 7, 4, 3, 6, 5, 9, 21, 20, 13, 14, 19, 18, 16, 15, 17], [27, 23, 22, 12, 11, 2, 1, 0, 10, 8, 7, 4, 3, 6, 5, 9, 21, 20, 13, 14, 19, 18, 16, 15, 17], [23, 22, 12, 11, 2, 1, 0, 10, 8, 7, 4, 3, 6, 5, 9, 21, 20, 13, 14, 19, 18, 16, 15, 17], [28, 27, 23, 22, 12, 11, 2, 1, 0, 10, 8, 7, 4, 3, 6, 5, 9, 21, 20, 13, 14, 19, 18, 16, 15, 17, 29], [30, 28, 27, 23, 22, 12, 11, 2, 1, 0, 10, 8, 7, 4, 3, 6, 5, 9, 21, 20, 13, 14, 19, 18, 16, 15, 17, 29], [26, 24, 23, 22, 12, 11, 2, 1, 0, 10, 8, 7, 4, 3, 6, 5, 9, 21, 20, 13, 14, 19, 18, 16, 15, 17, 25, 31, 30, 28, 27, 29], [32, 26, 24, 23, 22, 12, 11, 2, 1, 0, 10, 8, 7, 4, 3, 6, 5, 9, 21, 20, 13, 14, 19, 18, 16, 15, 17, 25, 31, 30, 28, 27, 29], [23, 22, 12, 11, 2, 1, 0, 10, 8, 7, 4, 3, 6, 5, 9, 21, 20, 13, 14, 19, 18, 16, 15, 17, 33, 32, 26, 24, 25, 31, 30, 28, 27, 29]]) (effs := [20]) (N := 77)
                  (val := fun i r => match i with | 0 => .int .i64 k | 1 => .bool true | 2 => .bool true | 3 => .pointer (some ⟨w.heap.size, 3, none⟩) | 4 => .slice (some ⟨bN, oN, none⟩) ns.length cN | 5 => .int .i64 k | 6 => .int .i64 (kp : Nat) | 7 => .pointer (some ⟨bN, oN + kp, none⟩) | 8 => .string p | 9 => .string n | 10 => .bool false | 11 => .bool false | 12 => .bool false | 13 => .pointer (some ⟨lb, 0, none⟩) | 14 => .string n | 15 => .pointer (some ⟨w.heap.size, 4, none⟩) | 16 => .slice (some ⟨bT, oT, none⟩) tss.length cT | 17 => .int .i64 k | 18 => .pointer (some ⟨bT, oT + k, none⟩) | 19 => .slice AX tx.length cX | 21 => .bool true | 22 => .bool true | 23 => .bool true | 24 => undef | 25 => undef | 26 => undef | 27 => undef | 28 => undef | 29 => undef | 30 => undef | 31 => undef | 32 => undef | 33 => undef | 34 => .bool true | _ => undef)
                  (Stage := fun rs wx => LdSt w wx (.cells #[.int .i64 sl, .int .i64 sr, .string sd, .slice (some ⟨bN, oN, none⟩) ns.length cN, .slice (some ⟨bT, oT, none⟩) tss.length cT] 38) lb mb k L X c tw eq rs ∧ rs 26 = none ∧ rs 32 = none)
                  (fun rs => [(some 35, .int .i64 k), (some 36, .bool true), (some 37, .bool true), (some 38, .pointer (some ⟨w.heap.size, 3, none⟩)), (some 39, .slice (some ⟨bN, oN, none⟩) ns.length cN), (some 40, .int .i64 k), (some 41, .int .i64 (kp : Nat)), (some 42, .pointer (some ⟨bN, oN + kp, none⟩)), (some 43, .string p), (some 44, .string n), (some 45, .bool false), (some 46, .bool false), (some 47, .bool false), (some 48, .pointer (some ⟨lb, 0, none⟩)), (some 49, .string n), (some 50, .pointer (some ⟨w.heap.size, 4, none⟩)), (some 51, .slice (some ⟨bT, oT, none⟩) tss.length cT), (some 52, .int .i64 k), (some 53, .pointer (some ⟨bT, oT + k, none⟩)), (some 54, .slice AX tx.length cX), (some 55, (rs 20).getD undef), (some 56, .bool true), (some 57, .bool true), (some 58, .bool true), (some 59, undef), (some 60, undef), (some 61, undef), (some 62, undef), (some 63, undef), (some 64, undef), (some 65, undef), (some 66, undef), (some 67, undef), (some 68, undef), (some 69, .bool true)])
                  (by kernel_rfl) (by kernel_rfl) rfl (fun _ => rfl) ?h0 ?hob ?hend
                case hob =>
                  intro i hi
                  match i, hi with
                  | 0, _ => exact Reg.Ob.pure rfl rfl rfl (fun rs => .int .i64 k) (fun _ => rfl) (fun rs wx r hs hd hl hk => by
                      have e6 : (r.tmps[6]?).getD undef = .int .i64 k := hk 6 (by decide)
                      go_simp)
                  | 1, _ => exact Reg.Ob.pure rfl rfl rfl (fun rs => .bool true) (fun _ => rfl) (fun rs wx r hs hd hl hk => by
                      have e35 : (r.tmps[35]?).getD undef = .int .i64 k := hk 35 (by decide)
                      have t9 := HK0.out
                      go_simp)
                  | 2, _ => exact Reg.Ob.pure rfl rfl rfl (fun rs => .bool true) (fun _ => rfl) (fun rs wx r hs hd hl hk => by
                      have e36 : (r.tmps[36]?).getD undef = .bool true := hk 36 (by decide)
                      go_simp)
                  | 3, _ => exact Reg.Ob.guarded rfl rfl (fun rs => .pointer (some ⟨w.heap.size, 3, none⟩)) (fun _ => rfl) (fun rs wx hs hd => rfl) (fun rs wx r hs hd hl hk => by
                      have e1 : (r.tmps[1]?).getD undef = .pointer (some ⟨w.heap.size, 0, none⟩) := hk 1 (by decide)
                      go_simp)
                  | 4, _ => exact Reg.Ob.guarded rfl rfl (fun rs => .slice (some ⟨bN, oN, none⟩) ns.length cN) (fun _ => rfl) (fun rs wx hs hd => rfl) (fun rs wx r hs hd hl hk => by
                      have e38 : (r.tmps[38]?).getD undef = .pointer (some ⟨w.heap.size, 3, none⟩) := hk 38 (by decide)
                      have c : wx.cell? ⟨w.heap.size, 3, none⟩ = some (.slice (some ⟨bN, oN, none⟩) ns.length cN) := blk_cell hs.1.box 3
                      go_simp)
                  | 5, _ => exact Reg.Ob.guarded rfl rfl (fun rs => .int .i64 k) (fun _ => rfl) (fun rs wx hs hd => rfl) (fun rs wx r hs hd hl hk => by
                      have e6 : (r.tmps[6]?).getD undef = .int .i64 k := hk 6 (by decide)
                      go_simp)
                  | 6, _ => exact Reg.Ob.guarded rfl rfl (fun rs => .int .i64 (kp : Nat)) (fun _ => rfl) (fun rs wx hs hd => rfl) (fun rs wx r hs hd hl hk => by
                      have e40 : (r.tmps[40]?).getD undef = .int .i64 k := hk 40 (by decide)
                      go_simp)
                  | 7, _ => exact Reg.Ob.guarded rfl rfl (fun rs => .pointer (some ⟨bN, oN + kp, none⟩)) (fun _ => rfl) (fun rs wx hs hd => rfl) (fun rs wx r hs hd hl hk => by
                      have e39 : (r.tmps[39]?).getD undef = .slice (some ⟨bN, oN, none⟩) ns.length cN := hk 39 (by decide)
                      have e41 : (r.tmps[41]?).getD undef = .int .i64 (kp : Nat) := hk 41 (by decide)
                      go_simp)
                  | 8, _ => exact Reg.Ob.guarded rfl rfl (fun rs => .string p) (fun _ => rfl) (fun rs wx hs hd => rfl) (fun rs wx r hs hd hl hk => by
                      have e42 : (r.tmps[42]?).getD undef = .pointer (some ⟨bN, oN + kp, none⟩) := hk 42 (by decide)
                      have c : wx.cell? ⟨bN, oN + kp, none⟩ = some (.string p) := (hs.1.below.cell (p := ⟨bN, oN + kp, none⟩) hbN).trans yp
                      go_simp)
                  | 9, _ => exact Reg.Ob.guarded rfl rfl (fun rs => .string n) (fun _ => rfl) (fun rs wx hs hd => rfl) (fun rs wx r hs hd hl hk => by
                      have e7 : (r.tmps[7]?).getD undef = .string n := hk 7 (by decide)
                      go_simp)
                  | 10, _ => exact Reg.Ob.guarded rfl rfl (fun rs => .bool false) (fun _ => rfl) (fun rs wx hs hd => rfl) (fun rs wx r hs hd hl hk => by
                      have e43 : (r.tmps[43]?).getD undef = .string p := hk 43 (by decide)
                      have e44 : (r.tmps[44]?).getD undef = .string n := hk 44 (by decide)
                      go_simp)
                  | 11, _ => exact Reg.Ob.pure rfl rfl rfl (fun rs => .bool false) (fun _ => rfl) (fun rs wx r hs hd hl hk => by
                      have e37 : (r.tmps[37]?).getD undef = .bool true := hk 37 (by decide)
                      have e45 : (r.tmps[45]?).getD undef = .bool false := hk 45 (by decide)
                      go_simp)
                  | 12, _ => exact Reg.Ob.pure rfl rfl rfl (fun rs => .bool false) (fun _ => rfl) (fun rs wx r hs hd hl hk => by
                      have e46 : (r.tmps[46]?).getD undef = .bool false := hk 46 (by decide)
                      go_simp)
                  | 13, _ => exact Reg.Ob.guarded rfl rfl (fun rs => .pointer (some ⟨lb, 0, none⟩)) (fun _ => rfl) (fun rs wx hs hd => rfl) (fun rs wx r hs hd hl hk => by
                      have e4 : (r.tmps[4]?).getD undef = .pointer (some ⟨lb, 0, none⟩) := hk 4 (by decide)
                      go_simp)
                  | 14, _ => exact Reg.Ob.guarded rfl rfl (fun rs => .string n) (fun _ => rfl) (fun rs wx hs hd => rfl) (fun rs wx r hs hd hl hk => by
                      have e7 : (r.tmps[7]?).getD undef = .string n := hk 7 (by decide)
                      go_simp)
                  | 15, _ => exact Reg.Ob.guarded rfl rfl (fun rs => .pointer (some ⟨w.heap.size, 4, none⟩)) (fun _ => rfl) (fun rs wx hs hd => rfl) (fun rs wx r hs hd hl hk => by
                      have e1 : (r.tmps[1]?).getD undef = .pointer (some ⟨w.heap.size, 0, none⟩) := hk 1 (by decide)
                      go_simp)
                  | 16, _ => exact Reg.Ob.guarded rfl rfl (fun rs => .slice (some ⟨bT, oT, none⟩) tss.length cT) (fun _ => rfl) (fun rs wx hs hd => rfl) (fun rs wx r hs hd hl hk => by
                      have e50 : (r.tmps[50]?).getD undef = .pointer (some ⟨w.heap.size, 4, none⟩) := hk 50 (by decide)
                      have c : wx.cell? ⟨w.heap.size, 4, none⟩ = some (.slice (some ⟨bT, oT, none⟩) tss.length cT) := blk_cell hs.1.box 4
                      go_simp)
                  | 17, _ => exact Reg.Ob.guarded rfl rfl (fun rs => .int .i64 k) (fun _ => rfl) (fun rs wx hs hd => rfl) (fun rs wx r hs hd hl hk => by
                      have e6 : (r.tmps[6]?).getD undef = .int .i64 k := hk 6 (by decide)
                      go_simp)
                  | 18, _ => exact Reg.Ob.guarded rfl rfl (fun rs => .pointer (some ⟨bT, oT + k, none⟩)) (fun _ => rfl) (fun rs wx hs hd => rfl) (fun rs wx r hs hd hl hk => by
                      have e51 : (r.tmps[51]?).getD undef = .slice (some ⟨bT, oT, none⟩) tss.length cT := hk 51 (by decide)
                      have e52 : (r.tmps[52]?).getD undef = .int .i64 k := hk 52 (by decide)
                      go_simp)
                  | 19, _ => exact Reg.Ob.guarded rfl rfl (fun rs => .slice AX tx.length cX) (fun _ => rfl) (fun rs wx hs hd => rfl) (fun rs wx r hs hd hl hk => by
                      have e53 : (r.tmps[53]?).getD undef = .pointer (some ⟨bT, oT + k, none⟩) := hk 53 (by decide)
                      have c : wx.cell? ⟨bT, oT + k, none⟩ = some (.slice AX tx.length cX) := (hs.1.below.cell (p := ⟨bT, oT + k, none⟩) hbT).trans yT
                      go_simp)
                  | 20, _ =>
                    refine Reg.Ob.geff rfl rfl (fun rs wx hs hd => rfl) ?_
                    intro rs wx r hs hd hn hl hk K hK
                    have e48 : (r.tmps[48]?).getD undef = .pointer (some ⟨lb, 0, none⟩) := hk 48 (by decide)
                    have e49 : (r.tmps[49]?).getD undef = .string n := hk 49 (by decide)
                    have e54 : (r.tmps[54]?).getD undef = .slice AX tx.length cX := hk 54 (by decide)
                    obtain ⟨n0, D0, hn0, hl0⟩ := hs.1.old hn
                    have C := set_any hl0 (HT.out.later hs.1.below) n (HZN.out.1) (.slice AX tx.length cX) tx (HTX.out.2.1.below hs.1.below) HZN.out.2.1 HZN.out.2.2 (by have := HK.out.1; have := HZ.out.2.1; omega) hs.1.below.size
                    rw [HX2.out.1, HX2.out.2.1] at C
                    have hmb := hl0.cells_ne hs.1.box (by decide)
                    have HC := Lib.hid (And.intro C (And.intro hmb (And.intro hn0 hl0.lo)))
                    clear C hmb hn0 hl0
                    have HS := Lib.hid hs
                    have HN' := Lib.hid hn
                    have HL := Lib.hid hl
                    have HKK := Lib.hid hK
                    clear hs hn hd hl hk hK
                    go_simp
                    refine HC.out.1.mono ?_
                    rintro e w5 ⟨rfl, n1, D1, hn1, hl1, hg1⟩
                    refine HKK.out _ _ ⟨⟨HS.out.1.below.grown hg1 HS.out.1.below.size (fun j hj => (by cases hj; exact HC.out.2.2.2.2)), blk_grown HS.out.1.box hg1 (by intro e; cases e; exact HC.out.2.1.2 rfl), fun h => (by simp [Reg.upd] at h), fun u hu => ?_, fun u hu => ?_, fun u hu => ?_⟩, ?_, ?_⟩
                    · have h2 : some (Value.int .i64 c) = some u := hu
                      cases h2
                      exact ⟨rfl, n1, D1, by have := HC.out.2.2.1; omega, hl1⟩
                    · have : rs 26 = some u := by simpa [Reg.upd] using hu
                      rw [HS.out.2.1] at this
                      cases this
                    · have : rs 32 = some u := by simpa [Reg.upd] using hu
                      rw [HS.out.2.2] at this
                      cases this
                    · simpa [Reg.upd] using HS.out.2.1
                    · simpa [Reg.upd] using HS.out.2.2
                  | 21, _ => exact Reg.Ob.guarded rfl rfl (fun rs => .bool true) (fun _ => rfl) (fun rs wx hs hd => rfl) (fun rs wx r hs hd hl hk => by
                      have e55 : (r.tmps[55]?).getD undef = ((rs 20).getD undef) := hk 55 (by decide)
                      obtain ⟨u20, hu20⟩ := hd 20 (by decide) (by decide)
                      obtain ⟨rfl, _⟩ := hs.1.new u20 hu20
                      rw [hu20] at e55
                      simp only [Option.getD_some] at e55
                      clear hu20
                      go_simp)
                  | 22, _ => exact Reg.Ob.pure rfl rfl rfl (fun rs => .bool true) (fun _ => rfl) (fun rs wx r hs hd hl hk => by
                      have e47 : (r.tmps[47]?).getD undef = .bool false := hk 47 (by decide)
                      have e56 : (r.tmps[56]?).getD undef = .bool true := hk 56 (by decide)
                      go_simp)
                  | 23, _ => exact Reg.Ob.pure rfl rfl rfl (fun rs => .bool true) (fun _ => rfl) (fun rs wx r hs hd hl hk => by
                      have e57 : (r.tmps[57]?).getD undef = .bool true := hk 57 (by decide)
                      go_simp)
                  | 24, _ => exact Reg.Ob.skip rfl rfl (fun _ => rfl) (fun rs wx hs hd => rfl)
                  | 25, _ => exact Reg.Ob.skip rfl rfl (fun _ => rfl) (fun rs wx hs hd => rfl)
                  | 26, _ => exact Reg.Ob.skip rfl rfl (fun _ => rfl) (fun rs wx hs hd => rfl)
                  | 27, _ => exact Reg.Ob.skip rfl rfl (fun _ => rfl) (fun rs wx hs hd => rfl)
                  | 28, _ => exact Reg.Ob.skip rfl rfl (fun _ => rfl) (fun rs wx hs hd => rfl)
                  | 29, _ => exact Reg.Ob.skip rfl rfl (fun _ => rfl) (fun rs wx hs hd => rfl)
                  | 30, _ => exact Reg.Ob.skip rfl rfl (fun _ => rfl) (fun rs wx hs hd => rfl)
                  | 31, _ => exact Reg.Ob.skip rfl rfl (fun _ => rfl) (fun rs wx hs hd => rfl)
                  | 32, _ => exact Reg.Ob.skip rfl rfl (fun _ => rfl) (fun rs wx hs hd => rfl)
                  | 33, _ => exact Reg.Ob.skip rfl rfl (fun _ => rfl) (fun rs wx hs hd => rfl)
                  | 34, _ => exact Reg.Ob.pure rfl rfl rfl (fun rs => .bool true) (fun _ => rfl) (fun rs wx r hs hd hl hk => by
                      have e58 : (r.tmps[58]?).getD undef = .bool true := hk 58 (by decide)
                      have e68 : (r.tmps[68]?).getD undef = undef := hk 68 (by decide)
                      go_simp)
                  | n + 35, h => exact absurd h (by simp <;> omega)
                case h0 =>
                  exact ⟨⟨HX.out.1.drew, HX.out.2.1, fun _ => (let ⟨n, D, a, b⟩ := HX.out.2.2.1; ⟨n, D, a, b.below (below_drewNs wr 1)⟩), fun u hu => (by cases hu), fun u hu => (by cases hu), fun u hu => (by cases hu)⟩, rfl, rfl⟩
                case hend =>
                  intro rs wx hs hd
                  obtain ⟨u20, hu20⟩ := hd 20 (by decide) (by decide)
                  obtain ⟨rfl, _⟩ := hs.1.new u20 hu20
                  simp only [List.foldl_cons, List.foldl_nil, Act.put, List.setIfInBounds_toArray, List.set_cons_zero, List.set_cons_succ]
                  rw [hu20]
                  simp only [Option.getD_some]
                  have HE := Lib.hid hs.1.below
                  clear hs hd hu20
                  go_wp2_with fail
                  go_ret2
                  exact ⟨HE.out, .inl ⟨HNN.out, rfl⟩⟩
        · have e : k = ns.length := by have := HK.out.1; omega
          subst e
          have t2 : ¬ (ns.length : Int) < (ns.length : Int) := by omega
          obtain ⟨n0, D0, hn0, hl0⟩ := HX.out.2.2.1
          have C := deflt_any hl0 sd HZ.out.2.2.2
          have hlo := hl0.lo.1
          obtain ⟨d, hd⟩ : ∃ d, (L.deflt sd).1 = d := ⟨_, rfl⟩
          obtain ⟨X, hX⟩ : ∃ X, (L.deflt sd).2 = X := ⟨_, rfl⟩
          rw [hd, hX] at C
          have hfin : RES = if d = 0 then some X else none := by rw [← HR.out.1, HX.out.2.2.2.1]; unfold LS.fin; simp only; rw [hd, hX]
          have HC := Lib.hid C
          have HF := Lib.hid (And.intro hfin (And.intro hn0 hlo))
          obtain ⟨y0, y1, y2, y3, y4, _⟩ := shCells hbox
          clear C hl0 hn0 hlo hd hX hfin hbox hlt
          by_cases hd0 : d = 0
          · subst hd0
            go_wp2_with fail
            refine HC.out.mono ?_
            rintro e w5 ⟨rfl, hl5, hu5⟩
            have HE := Lib.hid (And.intro hl5 hu5)
            clear hl5 hu5
            go_wp2_with fail
            go_ret2
            exact ⟨HX.out.1.trans (HE.out.2.below (fun j hj => by rw [hj]; exact HF.out.2.2) HX.out.1.size), .inr ⟨X, lb, mb, n0, D0, by rw [HF.out.1]; rfl, rfl, HF.out.2.1, HE.out.1⟩⟩
          · have t6 : (d != 0) = true := by simpa using hd0
            have HD0 := Lib.hid hd0
            clear hd0
            go_wp2_with fail
            refine HC.out.mono ?_
            rintro e w5 ⟨rfl, hl5, hu5⟩
            have HE := Lib.hid (And.intro hl5 hu5)
            clear hl5 hu5
            go_wp2_with fail
            go_ret2
            exact ⟨HX.out.1.trans (HE.out.2.below (fun j hj => by rw [hj]; exact HF.out.2.2) HX.out.1.size), .inl ⟨by rw [HF.out.1, if_neg HD0.out], rfl⟩⟩
    · rw [if_pos (.inr hle)] at hRES
      subst hRES
      have t1 : ((ns.length : Int) != (tss.length : Int)) = true := by simp; omega
      clear hb hle
      go_enter Tryz.func32, Tryz.ntmps32
      go_wp2_with fail
      rw [HW.out]
      refine HC.out.mono ?_
      rintro e w2 ⟨rfl, hb2, hx2, hl2⟩
      obtain ⟨y0, y1, y2, y3, y4, _⟩ := shCells hx2
      have HB := Lib.hid hb2
      have hz2 : w.heap.size < w2.heap.size := blk_lt hx2
      clear hb2 hx2 hl2 HC HW
      go_wp2_with fail
      go_ret2
      exact ⟨HB.out, .inl ⟨trivial, rfl⟩⟩
end Go.Proofs.YthbjcihdlhkboaaGreatDoor
