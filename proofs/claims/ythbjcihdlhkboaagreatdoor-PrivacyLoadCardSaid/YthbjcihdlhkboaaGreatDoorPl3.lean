/- The reference's lists, as they are loaded. -/
import Derived.Test.YthbjcihdlhkboaaGreatDoorPl2
namespace Go.Proofs.YthbjcihdlhkboaaGreatDoor
set_option linter.unusedSimpArgs false
set_option linter.unusedVariables false
open Go.RowKit Go.Maps Go.Shelf Go.Lib

theorem RfAt.lowers {w : World} {B B' qb : Nat} {S : RL} (h : RfAt w B qb S) (hB : B' ≤ B) : RfAt w B' qb S := by
  obtain ⟨vn, vt, vr, rows, hR⟩ := h
  exact ⟨vn, vt, vr, rows, { hR with
    names := hR.names.lower hB
    texts := hR.texts.lower hB
    rules := hR.rules.lower hB
    each := fun r hr => ⟨(hR.each r hr).1.lower hB, (hR.each r hr).2.lower hB⟩
    lo := by have := hR.lo; omega }⟩

/-- Each text is a rule's, as it is written. -/
def txOk (ts : List ByteArray) : Prop := ∀ t ∈ ts, ∃ r, parseF t = .ok r ∧ refWriteS r = t
theorem parseAll_iff : ∀ ts : List ByteArray, (∃ rs, parseAll ts = .ok rs ∧ rs.map refWriteS = ts) ↔ txOk ts
  | [] => ⟨fun _ t ht => (by cases ht), fun _ => ⟨[], rfl, rfl⟩⟩
  | t :: ts => by
    constructor
    · rintro ⟨rs, h1, h2⟩
      simp only [parseAll] at h1
      cases hp : parseF t with
      | error c => rw [hp] at h1; cases h1
      | ok r =>
        rw [hp] at h1
        cases hps : parseAll ts with
        | error c => rw [hps] at h1; cases h1
        | ok qs =>
          rw [hps] at h1
          cases h1
          simp only [List.map_cons, List.cons.injEq] at h2
          have := (parseAll_iff ts).1 ⟨qs, hps, h2.2⟩
          intro u hu
          rcases List.mem_cons.1 hu with rfl | hu
          · exact ⟨r, hp, h2.1⟩
          · exact this u hu
    · intro h
      obtain ⟨r, h1, h2⟩ := h t (List.mem_cons_self ..)
      obtain ⟨rs, h3, h4⟩ := (parseAll_iff ts).2 (fun u hu => h u (List.mem_cons_of_mem _ hu))
      exact ⟨r :: rs, by simp only [parseAll]; rw [h1, h3], by simp [h2, h4]⟩
theorem stepR_none {S : RL} {p : Option ByteArray} {n : ByteArray} {ts : List ByteArray} (h : notUp p n = true ∨ wordE n (validB n) ≠ 0 ∨ S.rules < (ts.length : Int) ∨ ¬ txOk ts ∨ (S.set n ts).1 ≠ 0) : stepR S p n ts = none := by
  unfold stepR
  by_cases h1 : notUp p n = true
  · rw [if_pos h1]
  · rw [if_neg h1]
    by_cases h2 : wordE n (validB n) ≠ 0
    · rw [if_pos h2]
    · rw [if_neg h2]
      by_cases h3 : S.rules < (ts.length : Int)
      · rw [if_pos h3]
      · rw [if_neg h3]
        cases hp : parseAll ts with
        | error e => rfl
        | ok rs =>
          simp only
          by_cases h4 : rs.map refWriteS = ts
          · rw [if_pos h4]
            have h5 := (parseAll_iff ts).1 ⟨rs, hp, h4⟩
            rcases h with h | h | h | h | h
            · exact absurd h h1
            · exact absurd h h2
            · exact absurd h h3
            · exact absurd h5 h
            · rw [if_pos h]
          · rw [if_neg h4]
theorem stepR_some {S : RL} {p : Option ByteArray} {n : ByteArray} {ts : List ByteArray} (h1 : notUp p n = false) (h2 : wordE n (validB n) = 0) (h3 : ¬ S.rules < (ts.length : Int)) (h4 : txOk ts) (h5 : (S.set n ts).1 = 0) : stepR S p n ts = some (S.set n ts).2 := by
  unfold stepR
  obtain ⟨rs, e1, e2⟩ := (parseAll_iff ts).2 h4
  rw [if_neg (by rw [h1]; decide), if_neg (by simp [h2]), if_neg h3, e1]
  simp only
  rw [if_pos e2, if_neg (by simp [h5])]
theorem stepR_keeps {S S' : RL} {p : Option ByteArray} {n : ByteArray} {ts : List ByteArray} (h : stepR S p n ts = some S') : S' = (S.set n ts).2 := by
  unfold stepR at h
  split at h
  · cases h
  · split at h
    · cases h
    · split at h
      · cases h
      · split at h
        · cases h
        · split at h
          · split at h
            · cases h
            · cases h; rfl
          · cases h
theorem set_chosen (S : RL) (n : ByteArray) (ts : List ByteArray) : (S.set n ts).2.chosen = S.chosen := by
  unfold RL.set
  split
  · split
    · rfl
    · split <;> rfl
  · rfl
theorem uptoR_keeps {a b : Int} {ns : List ByteArray} {tss : List (List ByteArray)} : ∀ {k : Nat} {S : RL}, uptoR (RL.new a b) ns tss k = some S → S.chosen = ⟨#[]⟩ ∧ S.most = a ∧ S.rules = b
  | 0, S, h => by cases h; exact ⟨rfl, rfl, rfl⟩
  | k + 1, S, h => by
    simp only [uptoR] at h
    split at h
    · rename_i S0 n ts h1 h2 h3
      obtain rfl := stepR_keeps h
      obtain ⟨e1, e2, e3⟩ := uptoR_keeps h1
      have := set_most S0 n ts
      exact ⟨by rw [set_chosen]; exact e1, by rw [this.1]; exact e2, by rw [this.2]; exact e3⟩
    · cases h
theorem uptoR_len {a b : Int} (ha : 0 ≤ a) {ns : List ByteArray} {tss : List (List ByteArray)} {k : Nat} {S : RL} (h : uptoR (RL.new a b) ns tss k = some S) : S.rows.length = k := by
  rcases upto_same (b := b) ha ns tss k with ⟨_, h2⟩ | ⟨L, S', _, h2, h3, _⟩
  · rw [h] at h2; cases h2
  · rw [h] at h2; cases h2; exact h3.len

/-- Told of a round's first region. -/
structure RlSt (w wr wx : World) (src : Obj) (c : Int) (rs : Nat → Option Value) : Prop where
  below : Below w.heap.size w wx
  old : Below wr.heap.size wr wx
  box : wx.heap[w.heap.size]? = some src
  num : ∀ u, rs 22 = some u → u = .int .i64 c

/-- Told of an inner round's test. -/
structure RpSt (w wo wx : World) (src : Obj) (rb : Nat) (r : Rule) (rs : Nat → Option Value) : Prop where
  below : Below w.heap.size w wx
  old : Below wo.heap.size wo wx
  box : wx.heap[w.heap.size]? = some src
  rbox : wx.heap[rb]? = some (.cells #[.bool r.allow, .bool r.inn, .bool r.out, .string r.by_, .string r.value] 138)
  txt : ∀ u, rs 4 = some u → u = .string (refWriteS r)
/-- Told of a round's call of Set. -/
structure RsSt (w wx : World) (src : Obj) (qb : Nat) (S X : RL) (d : Int) (rs : Nat → Option Value) : Prop where
  below : Below w.heap.size w wx
  box : wx.heap[w.heap.size]? = some src
  old : rs 11 = none → RfAt wx w.heap.size qb S
  new : ∀ u, rs 11 = some u → u = .int .i64 d ∧ RfAt wx w.heap.size qb X

set_option maxRecDepth 100000 in
set_option maxHeartbeats 16000000 in
theorem rload17_any (w : World) (s : ShD) (vn vt : Value) (hn : Strs w vn s.names) (ht : TabS w vt s.texts) (hz : ∀ n ∈ s.names, n.size ≤ 1000000) (hl : s.names.length ≤ 100000) (htz : ∀ ts ∈ s.texts, ts.length ≤ 1000000 ∧ ∀ t ∈ ts, t.size ≤ 1000000) :
    Calls Tryz.prog 34 #[.agg #[.int .i64 s.lists, .int .i64 s.rules, .string s.deflt, vn, vt]] w fun e w' => Below w.heap.size w w' ∧
      ((RL.load s = none ∧ e = .returned (.tuple #[.pointer none, .bool false])) ∨ ∃ S qb, RL.load s = some S ∧ e = .returned (.tuple #[.pointer (some ⟨qb, 0, none⟩), .bool true]) ∧ RfAt w' w.heap.size qb S) := by
  obtain ⟨sl, sr, sd, ns, tss⟩ := s
  simp only at hn ht hz hl htz ⊢
  obtain ⟨AN, cN, rfl⟩ : ∃ A c, vn = .slice A ns.length c := let ⟨⟨A, cap, h, _⟩, _⟩ := hn; ⟨A, cap, h⟩
  obtain ⟨AT, cT, rfl, htl, hts⟩ := ht
  obtain ⟨RES, hRES⟩ : ∃ R, RL.load ⟨sl, sr, sd, ns, tss⟩ = R := ⟨_, rfl⟩
  rw [hRES]
  unfold RL.load at hRES
  simp only at hRES
  obtain ⟨W1, hW1⟩ : ∃ W, w.alloc (.cells #[.int .i64 sl, .int .i64 sr, .string sd, .slice AN ns.length cN, .slice AT tss.length cT] 38) = W := ⟨_, rfl⟩
  have hb1 : Below w.heap.size w W1 := by rw [← hW1]; exact (Below.refl _ _).alloc (Nat.le_refl _) _
  have hx1 : W1.heap[w.heap.size]? = some (.cells #[.int .i64 sl, .int .i64 sr, .string sd, .slice AN ns.length cN, .slice AT tss.length cT] 38) := by rw [← hW1]; exact blk_new _ _
  have HN := Lib.hid hn
  have HTS := Lib.hid (And.intro htl hts)
  have HZ := Lib.hid (And.intro hz (And.intro hl htz))
  clear hn htl hts hz hl htz
  by_cases hb : badB sl sr
  · rw [if_pos (.inl hb)] at hRES
    subst hRES
    have HC := Lib.hid (rfnew_bad sl sr hb W1)
    have HW := Lib.hid (And.intro hb1 hW1)
    clear hb hb1 hx1 hW1
    go_enter Tryz.func34, Tryz.ntmps34
    go_wp2_with fail
    rw [HW.out.2]
    refine HC.out.mono ?_
    rintro e w2 ⟨rfl, hb2⟩
    have HB := Lib.hid hb2
    clear hb2
    go_wp2_with fail
    go_ret2
    refine ⟨?_, .inl ⟨trivial, rfl⟩⟩
    exact HW.out.1.trans (HB.out.mono HW.out.1.size)
  · have hbb := hb
    unfold badB at hbb
    have CN := rfnew_any sl sr (by omega) (by omega) (by omega) (by omega) W1
    obtain ⟨qb, hqb⟩ : ∃ l, W1.heap.size = l := ⟨_, rfl⟩
    have hCN : Calls Tryz.prog 11 #[.int .i64 sl, .int .i64 sr] W1 fun e w' => e = .returned (.tuple #[.pointer (some ⟨qb, 0, none⟩), .bool true]) ∧ Below w.heap.size w w' ∧ w'.heap[w.heap.size]? = some (.cells #[.int .i64 sl, .int .i64 sr, .string sd, .slice AN ns.length cN, .slice AT tss.length cT] 38) ∧ RfAt w' w.heap.size qb (RL.new sl sr) := by
      refine CN.mono ?_
      rintro e w' ⟨rfl, hb2, hl2⟩
      rw [hqb] at hl2
      exact ⟨by rw [hqb], hb1.trans (hb2.mono hb1.size), blk_below hx1 hb2 (blk_lt hx1), hl2.lowers (by rw [← hqb]; exact hb1.size)⟩
    have HC := Lib.hid hCN
    have HW := Lib.hid hW1
    have HS0 := Lib.hid (show 0 ≤ sl by omega)
    clear CN hCN hb1 hx1 hW1 hqb hbb
    by_cases hlm : sl < (ns.length : Int)
    · rw [if_pos (.inr (.inl hlm))] at hRES
      subst hRES
      have t1 : decide (sl < (ns.length : Int)) = true := by simpa using hlm
      clear hb
      go_enter Tryz.func34, Tryz.ntmps34
      go_wp2_with fail
      rw [HW.out]
      refine HC.out.mono ?_
      rintro e w2 ⟨rfl, hb2, hx2, hl2⟩
      obtain ⟨y0, y1, y2, y3, y4, _⟩ := shCells hx2
      have HB := Lib.hid hb2
      have hz2 : w.heap.size < w2.heap.size := blk_lt hx2
      clear hb2 hx2 hl2 HC HW
      go_wp2_with fail
      go_ret2
      exact ⟨HB.out, .inl ⟨trivial, rfl⟩⟩
    · have t1 : decide (sl < (ns.length : Int)) = false := by simpa using hlm
      by_cases hle : tss.length = ns.length
      · rw [if_neg (show ¬ (badB sl sr ∨ sl < (ns.length : Int) ∨ tss.length ≠ ns.length) from not_or.2 ⟨hb, not_or.2 ⟨hlm, fun h => h hle⟩⟩)] at hRES
        have t2 : ((tss.length : Int) != (ns.length : Int)) = false := by simp [hle]
        have t0 : (0 : Int) ≤ (ns.length : Int) := by omega
        have HR := Lib.hid (And.intro hRES hle)
        clear hb hRES hle
        go_enter Tryz.func34, Tryz.ntmps34
        go_wp2_with fail
        rw [HW.out]
        refine HC.out.mono ?_
        rintro e w2 ⟨rfl, hb2, hx2, hl2⟩
        obtain ⟨y0, y1, y2, y3, y4, _⟩ := shCells hx2
        have HB := Lib.hid (And.intro hb2 (And.intro hx2 hl2))
        have hz2 : w.heap.size < w2.heap.size := blk_lt hx2
        clear hb2 hx2 hl2 HC HW
        go_wp2_with fail
        clear hlm t1 t2
        clear y0 y1 y2 y3 y4
        go_loopg [6] ns.length (fun g s6 wr => ∃ (k : Nat) (S : RL), k ≤ ns.length ∧ g = ns.length - k ∧ s6 = .int .i64 k ∧ Below w.heap.size w wr ∧ wr.heap[w.heap.size]? = some (.cells #[.int .i64 sl, .int .i64 sr, .string sd, .slice AN ns.length cN, .slice AT tss.length cT] 38) ∧ RfAt wr w.heap.size qb S ∧ uptoR (RL.new sl sr) ns tss k = some S ∧ S.rows.length = k ∧ S.chosen = ⟨#[]⟩ ∧ S.rules = sr)
        case atStart => exact ⟨0, _, Nat.zero_le _, rfl, rfl, HB.out.1, HB.out.2.1, HB.out.2.2, rfl, rfl, rfl, rfl⟩
        case round =>
          clear HB
          obtain ⟨k, S, hk, hgk, rfl, hbx, hbox, hlat, hup, hrl, hch, hru⟩ := hrel
          have HX := Lib.hid (And.intro hbx (And.intro hbox (And.intro hlat (And.intro hup (And.intro hrl (And.intro hch hru))))))
          have HK := Lib.hid (And.intro hk hgk)
          have hzb : w.heap.size < wr.heap.size := blk_lt hbox
          obtain ⟨y0, y1, y2, y3, y4, _⟩ := shCells hbox
          clear hbx hlat hup hrl hk hgk hch hru
          by_cases hlt : k < ns.length
          · have t2 : (k : Int) < (ns.length : Int) := by omega
            have t3 : (k : Int) < (tss.length : Int) := by have := HR.out.2; omega
            have t4 : (0 : Int) ≤ (k : Int) := by omega
            have hw : IntKind.i64.wrap ((k : Int) + 1) = (k : Int) + 1 := IntWalk.i64_in _ (by have := HZ.out.2.1; omega)
            obtain ⟨n, hnk⟩ : ∃ n, ns[k]? = some n := ⟨_, List.getElem?_eq_getElem hlt⟩
            obtain ⟨bN, oN, rfl, _, hbN, yN0⟩ := HN.out.at hlt
            have hnn : ns[k] = n := by rw [List.getElem?_eq_getElem hlt] at hnk; exact Option.some.inj hnk
            rw [hnn] at yN0
            have yN : wr.cell? ⟨bN, oN + k, none⟩ = some (.string n) := (HX.out.1.cell (p := ⟨bN, oN + k, none⟩) hbN).trans yN0
            obtain ⟨tx, htx⟩ : ∃ tx, tss[k]? = some tx := ⟨_, List.getElem?_eq_getElem (by have := HR.out.2; omega)⟩
            obtain ⟨bT, oT, rfl, hbT, hcT⟩ := HTS.out.2 (by have := HR.out.2; omega)
            obtain ⟨uT, yT, hST⟩ := hcT k tx htx
            obtain ⟨AX, cX, rfl⟩ : ∃ A c, uT = .slice A tx.length c := let ⟨⟨A, cap, h, _⟩, _⟩ := hST; ⟨A, cap, h⟩
            have HTX := Lib.hid (And.intro htx (And.intro hST (And.intro hnk hlt)))
            have HZN := Lib.hid (show n.size ≤ 1000000 ∧ tx.length ≤ 1000000 ∧ ∀ t ∈ tx, t.size ≤ 1000000 from ⟨HZ.out.1 n (List.mem_of_getElem? hnk), HZ.out.2.2 tx (List.mem_of_getElem? htx)⟩)
            obtain ⟨c, hc⟩ : ∃ c, wordE n (validB n) = c := ⟨_, rfl⟩
            obtain ⟨ov, hov⟩ : ∃ b, decide (sr < (tx.length : Int)) = b := ⟨_, rfl⟩
            have C := fun W => refword_any n (validB n) W (fun h64 W' => refvalid_any _ (by have := HZN.out.1; omega) W')
            rw [hc] at C
            have HWD := Lib.hid (And.intro C hc)
            have HOV := Lib.hid hov
            have hstep : uptoR (RL.new sl sr) ns tss (k + 1) = stepR S (prevN ns k) n tx := by simp only [uptoR, HX.out.2.2.2.1, hnk, htx]
            have HST2 := Lib.hid hstep
            have hnone : (notUp (prevN ns k) n = true ∨ wordE n (validB n) ≠ 0 ∨ S.rules < (tx.length : Int) ∨ ¬ txOk tx ∨ (S.set n tx).1 ≠ 0) → RES = none := fun h => by rw [← HR.out.1, uptoR_none (hstep.trans (stepR_none h)) (by omega)]; rfl
            have HNONE := Lib.hid hnone
            clear hnn hcT htx hST hnk C hc hov hstep hnone hbox hlt
            by_cases hk0 : k = 0
            · have t5 : decide (0 < (k : Int)) = false := by simp; omega
              have hup0 : notUp (prevN ns k) n = false := by unfold prevN notUp; rw [if_pos hk0]
              have HU := Lib.hid hup0
              have HK0 := Lib.hid hk0
              clear hup0 hk0
              by_cases hc0 : c = 0
              · subst hc0
                go_wp2_with fail
                clear y0 y1 y2 y3 y4 yN
                refine Reg.wp_region_puts (A := [[], [0], [1, 0], [2, 1, 0], [3, 2, 1, 0], [2, 1, 0], [5, 2, 1, 0], [4, 3, 2, 1, 0, 6, 5], [7, 4, 3, 2, 1, 0, 6, 5], [2, 1, 0], [9, 2, 1, 0], [2, 1, 0], [10, 9, 2, 1, 0, 11], [12, 10, 9, 2, 1, 0, 11], [8, 7, 4, 3, 2, 1, 0, 6, 5, 13, 12, 10, 9, 11], [2, 1, 0, 14, 8, 7, 4, 3, 6, 5, 13, 12, 10, 9, 11], [15, 2, 1, 0, 14, 8, 7, 4, 3, 6, 5, 13, 12, 10, 9, 11], [16, 15, 2, 1, 0, 14, 8, 7, 4, 3, 6, 5, 13, 12, 10, 9, 11], [17, 16, 15, 2, 1, 0, 14, 8, 7, 4, 3, 6, 5, 13, 12, 10, 9, 11], [16, 15, 2, 1, 0, 14, 8, 7, 4, 3, 6, 5, 13, 12, 10, 9, 11], [18, 17, 16, 15, 2, 1, 0, 14, 8, 7, 4, 3, 6, 5, 13, 12, 10, 9, 11, 19], [20, 18, 17, 16, 15, 2, 1, 0, 14, 8, 7, 4, 3, 6, 5, 13, 12, 10, 9, 11, 19], [21, 20, 18, 17, 16, 15, 2, 1, 0, 14, 8, 7, 4, 3, 6, 5, 13, 12, 10, 9, 11, 19], [22, 21, 20, 18, 17, 16, 15, 2, 1, 0, 14, 8, 7, 4, 3, 6, 5, 13, 12, 10, 9, 11, 19], [16, 15, 2, 1, 0, 14, 8, 7, 4, 3, 6, 5, 13, 12, 10, 9, 11, 23, 22, 21, 20, 18, 17, 19], [24, 16, 15, 2, 1, 0, 14, 8, 7, 4, 3, 6, 5, 13, 12, 10, 9, 11, 23, 22, 21, 20, 18, 17, 19], [25, 24, 16, 15, 2, 1, 0, 14, 8, 7, 4, 3, 6, 5, 13, 12, 10, 9, 11, 23, 22, 21, 20, 18, 17, 19], [26, 25, 24, 16, 15, 2, 1, 0, 14, 8, 7, 4, 3, 6, 5, 13, 12, 10, 9, 11, 23, 22, 21, 20, 18, 17, 19], [25, 24, 16, 15, 2, 1, 0, 14, 8, 7, 4, 3, 6, 5, 13, 12, 10, 9, 11, 23, 22, 21, 20, 18, 17, 19], [27, 26, 25, 24, 16, 15, 2, 1, 0, 14, 8, 7, 4, 3, 6, 5, 13, 12, 10, 9, 11, 23, 22, 21, 20, 18, 17, 19, 28], [29, 27, 26, 25, 24, 16, 15, 2, 1, 0, 14, 8, 7, 4, 3, 6, 5, 13, 12, 10, 9, 11, 23, 22, 21, 20, 18, 17, 19, 28], [30, 29, 27, 26, 25, 24, 16, 15, 2, 1, 0, 14, 8, 7, 4, 3, 6, 5, 13, 12, 10, 9, 11, 23, 22, 21, 20, 18, 17, 19, 28], [25, 24, 16, 15, 2, 1, 0, 14, 8, 7, 4, 3, 6, 5, 13, 12, 10, 9, 11, 23, 22, 21, 20, 18, 17, 19], [32, 25, 24, 16, 15, 2, 1, 0, 14, 8, 7, 4, 3, 6, 5, 13, 12, 10, 9, 11, 23, 22, 21, 20, 18, 17, 19], [31, 30, 29, 27, 26, 25, 24, 16, 15, 2, 1, 0, 14, 8, 7, 4, 3, 6, 5, 13, 12, 10, 9, 11, 23, 22, 21, 20, 18, 17, 19, 28, 33, 32], [25, 24, 16, 15, 2, 1, 0, 14, 8, 7, 4, 3, 6, 5, 13, 12, 10, 9, 11, 23, 22, 21, 20, 18, 17, 19, 34, 31, 30, 29, 27, 26, 28, 33, 32]]) (effs := [22]) (N := 141)
                  (val := fun i r => match i with | 0 => .int .i64 k | 1 => .bool false | 2 => .bool false | 3 => undef | 4 => undef | 5 => undef | 6 => undef | 7 => undef | 8 => undef | 9 => undef | 10 => undef | 11 => undef | 12 => undef | 13 => undef | 14 => undef | 15 => .bool false | 16 => .bool false | 17 => .pointer (some ⟨w.heap.size, 3, none⟩) | 18 => .slice (some ⟨bN, oN, none⟩) ns.length cN | 19 => .int .i64 k | 20 => .pointer (some ⟨bN, oN + k, none⟩) | 21 => .string n | 23 => .bool false | 24 => .bool false | 25 => .bool false | 26 => .pointer (some ⟨w.heap.size, 4, none⟩) | 27 => .slice (some ⟨bT, oT, none⟩) tss.length cT | 28 => .int .i64 k | 29 => .pointer (some ⟨bT, oT + k, none⟩) | 30 => .slice AX tx.length cX | 31 => .int .i64 tx.length | 32 => .pointer (some ⟨w.heap.size, 1, none⟩) | 33 => .int .i64 sr | 34 => .bool ov | 35 => .bool ov | _ => undef)
                  (Stage := fun rs wx => RlSt w wr wx (.cells #[.int .i64 sl, .int .i64 sr, .string sd, .slice (some ⟨bN, oN, none⟩) ns.length cN, .slice (some ⟨bT, oT, none⟩) tss.length cT] 38) 0 rs)
                  (fun rs => [(some 44, .int .i64 k), (some 45, .bool false), (some 46, .bool false), (some 47, undef), (some 48, undef), (some 49, undef), (some 50, undef), (some 51, undef), (some 52, undef), (some 53, undef), (some 54, undef), (some 55, undef), (some 56, undef), (some 57, undef), (some 58, undef), (some 59, .bool false), (some 60, .bool false), (some 61, .pointer (some ⟨w.heap.size, 3, none⟩)), (some 62, .slice (some ⟨bN, oN, none⟩) ns.length cN), (some 63, .int .i64 k), (some 64, .pointer (some ⟨bN, oN + k, none⟩)), (some 65, .string n), (some 66, (rs 22).getD undef), (some 67, .bool false), (some 68, .bool false), (some 69, .bool false), (some 70, .pointer (some ⟨w.heap.size, 4, none⟩)), (some 71, .slice (some ⟨bT, oT, none⟩) tss.length cT), (some 72, .int .i64 k), (some 73, .pointer (some ⟨bT, oT + k, none⟩)), (some 74, .slice AX tx.length cX), (some 75, .int .i64 tx.length), (some 76, .pointer (some ⟨w.heap.size, 1, none⟩)), (some 77, .int .i64 sr), (some 78, .bool ov), (some 79, .bool ov)])
                  (by kernel_rfl) (by kernel_rfl) rfl (fun _ => rfl) ?h0 ?hob ?hend
                case hob =>
                  intro i hi
                  match i, hi with
                  | 0, _ => exact Reg.Ob.pure rfl rfl rfl (fun rs => .int .i64 k) (fun _ => rfl) (fun rs wx r hs hd hl hk => by
                      have e6 : (r.tmps[6]?).getD undef = .int .i64 k := hk 6 (by decide)
                      go_simp)
                  | 1, _ => exact Reg.Ob.pure rfl rfl rfl (fun rs => .bool false) (fun _ => rfl) (fun rs wx r hs hd hl hk => by
                      have e44 : (r.tmps[44]?).getD undef = .int .i64 k := hk 44 (by decide)
                      have t9 := HK0.out
                      go_simp)
                  | 2, _ => exact Reg.Ob.pure rfl rfl rfl (fun rs => .bool false) (fun _ => rfl) (fun rs wx r hs hd hl hk => by
                      have e45 : (r.tmps[45]?).getD undef = .bool false := hk 45 (by decide)
                      go_simp)
                  | 3, _ => exact Reg.Ob.skip rfl rfl (fun _ => rfl) (fun rs wx hs hd => rfl)
                  | 4, _ => exact Reg.Ob.skip rfl rfl (fun _ => rfl) (fun rs wx hs hd => rfl)
                  | 5, _ => exact Reg.Ob.skip rfl rfl (fun _ => rfl) (fun rs wx hs hd => rfl)
                  | 6, _ => exact Reg.Ob.skip rfl rfl (fun _ => rfl) (fun rs wx hs hd => rfl)
                  | 7, _ => exact Reg.Ob.skip rfl rfl (fun _ => rfl) (fun rs wx hs hd => rfl)
                  | 8, _ => exact Reg.Ob.skip rfl rfl (fun _ => rfl) (fun rs wx hs hd => rfl)
                  | 9, _ => exact Reg.Ob.skip rfl rfl (fun _ => rfl) (fun rs wx hs hd => rfl)
                  | 10, _ => exact Reg.Ob.skip rfl rfl (fun _ => rfl) (fun rs wx hs hd => rfl)
                  | 11, _ => exact Reg.Ob.skip rfl rfl (fun _ => rfl) (fun rs wx hs hd => rfl)
                  | 12, _ => exact Reg.Ob.skip rfl rfl (fun _ => rfl) (fun rs wx hs hd => rfl)
                  | 13, _ => exact Reg.Ob.skip rfl rfl (fun _ => rfl) (fun rs wx hs hd => rfl)
                  | 14, _ => exact Reg.Ob.skip rfl rfl (fun _ => rfl) (fun rs wx hs hd => rfl)
                  | 15, _ => exact Reg.Ob.pure rfl rfl rfl (fun rs => .bool false) (fun _ => rfl) (fun rs wx r hs hd hl hk => by
                      have e46 : (r.tmps[46]?).getD undef = .bool false := hk 46 (by decide)
                      have e58 : (r.tmps[58]?).getD undef = undef := hk 58 (by decide)
                      go_simp)
                  | 16, _ => exact Reg.Ob.pure rfl rfl rfl (fun rs => .bool false) (fun _ => rfl) (fun rs wx r hs hd hl hk => by
                      have e59 : (r.tmps[59]?).getD undef = .bool false := hk 59 (by decide)
                      go_simp)
                  | 17, _ => exact Reg.Ob.guarded rfl rfl (fun rs => .pointer (some ⟨w.heap.size, 3, none⟩)) (fun _ => rfl) (fun rs wx hs hd => rfl) (fun rs wx r hs hd hl hk => by
                      have e1 : (r.tmps[1]?).getD undef = .pointer (some ⟨w.heap.size, 0, none⟩) := hk 1 (by decide)
                      go_simp)
                  | 18, _ => exact Reg.Ob.guarded rfl rfl (fun rs => .slice (some ⟨bN, oN, none⟩) ns.length cN) (fun _ => rfl) (fun rs wx hs hd => rfl) (fun rs wx r hs hd hl hk => by
                      have e61 : (r.tmps[61]?).getD undef = .pointer (some ⟨w.heap.size, 3, none⟩) := hk 61 (by decide)
                      have c1 : wx.cell? ⟨w.heap.size, 3, none⟩ = some (.slice (some ⟨bN, oN, none⟩) ns.length cN) := blk_cell hs.box 3
                      go_simp)
                  | 19, _ => exact Reg.Ob.guarded rfl rfl (fun rs => .int .i64 k) (fun _ => rfl) (fun rs wx hs hd => rfl) (fun rs wx r hs hd hl hk => by
                      have e6 : (r.tmps[6]?).getD undef = .int .i64 k := hk 6 (by decide)
                      go_simp)
                  | 20, _ => exact Reg.Ob.guarded rfl rfl (fun rs => .pointer (some ⟨bN, oN + k, none⟩)) (fun _ => rfl) (fun rs wx hs hd => rfl) (fun rs wx r hs hd hl hk => by
                      have e62 : (r.tmps[62]?).getD undef = .slice (some ⟨bN, oN, none⟩) ns.length cN := hk 62 (by decide)
                      have e63 : (r.tmps[63]?).getD undef = .int .i64 k := hk 63 (by decide)
                      go_simp)
                  | 21, _ => exact Reg.Ob.guarded rfl rfl (fun rs => .string n) (fun _ => rfl) (fun rs wx hs hd => rfl) (fun rs wx r hs hd hl hk => by
                      have e64 : (r.tmps[64]?).getD undef = .pointer (some ⟨bN, oN + k, none⟩) := hk 64 (by decide)
                      have c1 : wx.cell? ⟨bN, oN + k, none⟩ = some (.string n) := (hs.below.cell (p := ⟨bN, oN + k, none⟩) hbN).trans yN0
                      go_simp)
                  | 22, _ =>
                    refine Reg.Ob.geff rfl rfl (fun rs wx hs hd => rfl) ?_
                    intro rs wx r hs hd hn hl hk K hK
                    have e65 : (r.tmps[65]?).getD undef = .string n := hk 65 (by decide)
                    have HS := Lib.hid hs
                    have HN' := Lib.hid hn
                    have HL := Lib.hid hl
                    have HKK := Lib.hid hK
                    clear hs hn hd hl hk hK
                    go_simp
                    refine (HWD.out.1 wx).mono ?_
                    rintro e w5 ⟨rfl, hb5⟩
                    refine HKK.out _ _ ⟨HS.out.below.trans (hb5.mono HS.out.below.size), HS.out.old.trans (hb5.mono HS.out.old.size), blk_below HS.out.box hb5 (blk_lt HS.out.box), fun u hu => ?_⟩
                    have h2 : some (Value.int .i64 0) = some u := hu
                    cases h2
                    rfl
                  | 23, _ => exact Reg.Ob.guarded rfl rfl (fun rs => .bool false) (fun _ => rfl) (fun rs wx hs hd => rfl) (fun rs wx r hs hd hl hk => by
                      have e66 : (r.tmps[66]?).getD undef = ((rs 22).getD undef) := hk 66 (by decide)
                      obtain ⟨u22, hu22⟩ := hd 22 (by decide) (by decide)
                      obtain rfl := hs.num u22 hu22
                      rw [hu22] at e66
                      simp only [Option.getD_some] at e66
                      clear hu22
                      go_simp)
                  | 24, _ => exact Reg.Ob.pure rfl rfl rfl (fun rs => .bool false) (fun _ => rfl) (fun rs wx r hs hd hl hk => by
                      have e60 : (r.tmps[60]?).getD undef = .bool false := hk 60 (by decide)
                      have e67 : (r.tmps[67]?).getD undef = .bool false := hk 67 (by decide)
                      go_simp)
                  | 25, _ => exact Reg.Ob.pure rfl rfl rfl (fun rs => .bool false) (fun _ => rfl) (fun rs wx r hs hd hl hk => by
                      have e68 : (r.tmps[68]?).getD undef = .bool false := hk 68 (by decide)
                      go_simp)
                  | 26, _ => exact Reg.Ob.guarded rfl rfl (fun rs => .pointer (some ⟨w.heap.size, 4, none⟩)) (fun _ => rfl) (fun rs wx hs hd => rfl) (fun rs wx r hs hd hl hk => by
                      have e1 : (r.tmps[1]?).getD undef = .pointer (some ⟨w.heap.size, 0, none⟩) := hk 1 (by decide)
                      go_simp)
                  | 27, _ => exact Reg.Ob.guarded rfl rfl (fun rs => .slice (some ⟨bT, oT, none⟩) tss.length cT) (fun _ => rfl) (fun rs wx hs hd => rfl) (fun rs wx r hs hd hl hk => by
                      have e70 : (r.tmps[70]?).getD undef = .pointer (some ⟨w.heap.size, 4, none⟩) := hk 70 (by decide)
                      have c1 : wx.cell? ⟨w.heap.size, 4, none⟩ = some (.slice (some ⟨bT, oT, none⟩) tss.length cT) := blk_cell hs.box 4
                      go_simp)
                  | 28, _ => exact Reg.Ob.guarded rfl rfl (fun rs => .int .i64 k) (fun _ => rfl) (fun rs wx hs hd => rfl) (fun rs wx r hs hd hl hk => by
                      have e6 : (r.tmps[6]?).getD undef = .int .i64 k := hk 6 (by decide)
                      go_simp)
                  | 29, _ => exact Reg.Ob.guarded rfl rfl (fun rs => .pointer (some ⟨bT, oT + k, none⟩)) (fun _ => rfl) (fun rs wx hs hd => rfl) (fun rs wx r hs hd hl hk => by
                      have e71 : (r.tmps[71]?).getD undef = .slice (some ⟨bT, oT, none⟩) tss.length cT := hk 71 (by decide)
                      have e72 : (r.tmps[72]?).getD undef = .int .i64 k := hk 72 (by decide)
                      go_simp)
                  | 30, _ => exact Reg.Ob.guarded rfl rfl (fun rs => .slice AX tx.length cX) (fun _ => rfl) (fun rs wx hs hd => rfl) (fun rs wx r hs hd hl hk => by
                      have e73 : (r.tmps[73]?).getD undef = .pointer (some ⟨bT, oT + k, none⟩) := hk 73 (by decide)
                      have c1 : wx.cell? ⟨bT, oT + k, none⟩ = some (.slice AX tx.length cX) := (hs.below.cell (p := ⟨bT, oT + k, none⟩) hbT).trans yT
                      go_simp)
                  | 31, _ => exact Reg.Ob.guarded rfl rfl (fun rs => .int .i64 tx.length) (fun _ => rfl) (fun rs wx hs hd => rfl) (fun rs wx r hs hd hl hk => by
                      have e74 : (r.tmps[74]?).getD undef = .slice AX tx.length cX := hk 74 (by decide)
                      go_simp)
                  | 32, _ => exact Reg.Ob.guarded rfl rfl (fun rs => .pointer (some ⟨w.heap.size, 1, none⟩)) (fun _ => rfl) (fun rs wx hs hd => rfl) (fun rs wx r hs hd hl hk => by
                      have e1 : (r.tmps[1]?).getD undef = .pointer (some ⟨w.heap.size, 0, none⟩) := hk 1 (by decide)
                      go_simp)
                  | 33, _ => exact Reg.Ob.guarded rfl rfl (fun rs => .int .i64 sr) (fun _ => rfl) (fun rs wx hs hd => rfl) (fun rs wx r hs hd hl hk => by
                      have e76 : (r.tmps[76]?).getD undef = .pointer (some ⟨w.heap.size, 1, none⟩) := hk 76 (by decide)
                      have c1 : wx.cell? ⟨w.heap.size, 1, none⟩ = some (.int .i64 sr) := blk_cell hs.box 1
                      go_simp)
                  | 34, _ => exact Reg.Ob.guarded rfl rfl (fun rs => .bool ov) (fun _ => rfl) (fun rs wx hs hd => rfl) (fun rs wx r hs hd hl hk => by
                      have e75 : (r.tmps[75]?).getD undef = .int .i64 tx.length := hk 75 (by decide)
                      have e77 : (r.tmps[77]?).getD undef = .int .i64 sr := hk 77 (by decide)
                      have t9 := HOV.out
                      go_simp)
                  | 35, _ => exact Reg.Ob.pure rfl rfl rfl (fun rs => .bool ov) (fun _ => rfl) (fun rs wx r hs hd hl hk => by
                      have e69 : (r.tmps[69]?).getD undef = .bool false := hk 69 (by decide)
                      have e78 : (r.tmps[78]?).getD undef = .bool ov := hk 78 (by decide)
                      go_simp)
                  | n + 36, h => exact absurd h (by simp <;> omega)
                case h0 =>
                  exact ⟨HX.out.1.drew, below_drewNs wr 1, HX.out.2.1, fun u hu => (by cases hu)⟩
                case hend =>
                  intro rs wx hs hd
                  obtain ⟨u22, hu22⟩ := hd 22 (by decide) (by decide)
                  obtain rfl := hs.num u22 hu22
                  simp only [List.foldl_cons, List.foldl_nil, Act.put, List.setIfInBounds_toArray, List.set_cons_zero, List.set_cons_succ]
                  rw [hu22]
                  simp only [Option.getD_some]
                  have HE := Lib.hid (And.intro hs.below (And.intro hs.old hs.box))
                  have hox := hs.box
                  clear hs hd hu22
                  cases ov with
                  | true =>
                    have HNN : Hid (RES = none) := Lib.hid (HNONE.out (.inr (.inr (.inl (by have := HOV.out; simp only [decide_eq_true_eq] at this; exact (HX.out.2.2.2.2.2.2).symm ▸ this)))))
                    go_wp2_with fail
                    go_ret2
                    exact ⟨HE.out.1, .inl ⟨HNN.out, rfl⟩⟩
                  | false =>
                    have HNV : Hid (¬ S.rules < (tx.length : Int)) := Lib.hid (by have := HOV.out; simp only [decide_eq_false_iff_not] at this; rw [HX.out.2.2.2.2.2.2]; exact this)
                    have HUN : Hid (notUp (prevN ns k) n = false) := Lib.hid HU.out
                    obtain ⟨y0, y1, y2, y3, y4, _⟩ := shCells hox
                    have zT : bT < wx.heap.size := by have := HE.out.1.size; omega
                    have zN : bN < wx.heap.size := by have := HE.out.1.size; omega
                    have yT1 : wx.cell? ⟨bT, oT + k, none⟩ = some (.slice AX tx.length cX) := (HE.out.1.cell (p := ⟨bT, oT + k, none⟩) hbT).trans yT
                    have hzx : w.heap.size < wx.heap.size := blk_lt hox
                    clear hox HOV
                    go_wp2_with fail
                    clear y0 y1 y2 y3 y4 yT1 zT zN hzx
                    obtain ⟨wo, rfl⟩ : ∃ wo : World, wo = wr := ⟨_, rfl⟩
                    go_loopg [7] tx.length (fun g s7 w3 => ∃ j : Nat, j ≤ tx.length ∧ g = tx.length - j ∧ s7 = .int .i64 j ∧ Below wo.heap.size wo w3 ∧ ∀ i t, i < j → tx[i]? = some t → ∃ r, parseF t = .ok r ∧ refWriteS r = t)
                    case atStart => exact ⟨0, Nat.zero_le _, rfl, rfl, HE.out.2.1, fun i t hi => absurd hi (by omega)⟩
                    case round =>
                      clear HE
                      obtain ⟨j, hj, hgj, rfl, hb3, hall⟩ := hrel
                      have hbw : Below w.heap.size w wr := HX.out.1.trans (hb3.mono HX.out.1.size)
                      have hbox3 := blk_below HX.out.2.1 hb3 (blk_lt HX.out.2.1)
                      obtain ⟨y0, y1, y2, y3, y4, _⟩ := shCells hbox3
                      have yT1 : wr.cell? ⟨bT, oT + k, none⟩ = some (.slice AX tx.length cX) := (hbw.cell (p := ⟨bT, oT + k, none⟩) hbT).trans yT
                      have zT : bT < wr.heap.size := by have := hbw.size; omega
                      have zN : bN < wr.heap.size := by have := hbw.size; omega
                      have hzx : w.heap.size < wr.heap.size := blk_lt hbox3
                      have HY := Lib.hid (And.intro hbw (And.intro hbox3 hb3))
                      have HJ := Lib.hid (And.intro hj (And.intro hgj hall))
                      clear hbw hbox3 hb3 hgj hall hj
                      by_cases hjl : j < tx.length
                      · have s2 : (j : Int) < (tx.length : Int) := by omega
                        have s4 : (0 : Int) ≤ (j : Int) := by omega
                        have hwj : IntKind.i64.wrap ((j : Int) + 1) = (j : Int) + 1 := IntWalk.i64_in _ (by have := HZN.out.2.1; omega)
                        obtain ⟨t, htj⟩ : ∃ t, tx[j]? = some t := ⟨_, List.getElem?_eq_getElem hjl⟩
                        obtain ⟨bX, oX, rfl, _, hbX, yX0⟩ := HTX.out.2.1.at hjl
                        have htt : tx[j] = t := by rw [List.getElem?_eq_getElem hjl] at htj; exact Option.some.inj htj
                        rw [htt] at yX0
                        have yX : wr.cell? ⟨bX, oX + j, none⟩ = some (.string t) := (HY.out.1.cell (p := ⟨bX, oX + j, none⟩) hbX).trans yX0
                        have zX : bX < wr.heap.size := by have := HY.out.1.size; omega
                        have hts : t.size ≤ 1000000 := HZN.out.2.2 t (List.mem_of_getElem? htj)
                        have C2 := refparse_full t wr (by omega)
                        have HTJ := Lib.hid (And.intro htj (And.intro hts hjl))
                        clear htj htt hts hjl
                        cases hp : parseF t with
                        | error e0 =>
                          rw [hp] at C2
                          simp only [parseV] at C2
                          have he0 : e0 ≠ 0 := parseF_err hp
                          have t10 : (e0 != 0) = true := by simpa using he0
                          have HNN : Hid (RES = none) := Lib.hid (HNONE.out (.inr (.inr (.inr (.inl (fun h => by
                            obtain ⟨r, h1, _⟩ := h t (List.mem_of_getElem? HTJ.out.1)
                            rw [hp] at h1
                            cases h1))))))
                          have HC2 := Lib.hid C2
                          clear hp C2 he0
                          go_wp2_with fail
                          refine HC2.out.mono ?_
                          rintro e w5 ⟨rfl, hb5⟩
                          have HB5 := Lib.hid hb5
                          clear hb5 HC2
                          go_wp2_with fail
                          clear y0 y1 y2 y3 y4 yX
                          refine Reg.wp_region_puts (A := [[], [0], [1, 0], [2, 1, 0], [3, 2, 1, 0], [2, 1, 0], [5, 2, 1, 0], [2, 1, 0], [6, 5, 2, 1, 0, 7], [8, 6, 5, 2, 1, 0, 7], [2, 1, 0], [9, 8, 6, 5, 2, 1, 0, 7, 10], [11, 9, 8, 6, 5, 2, 1, 0, 7, 10], [4, 3, 2, 1, 0, 12, 11, 9, 8, 6, 5, 7, 10], [2, 1, 0, 13, 4, 3, 12, 11, 9, 8, 6, 5, 7, 10]]) (effs := []) (N := 141)
                            (val := fun i r => match i with | 0 => .int .i64 e0 | 1 => .bool true | 2 => .bool true | 3 => undef | 4 => undef | 5 => undef | 6 => undef | 7 => undef | 8 => undef | 9 => undef | 10 => undef | 11 => undef | 12 => undef | 13 => undef | 14 => .bool true | _ => undef)
                            (Stage := fun rs wx => Below w.heap.size w wx)
                            (fun rs => [(some 102, .int .i64 e0), (some 103, .bool true), (some 104, .bool true), (some 105, undef), (some 106, undef), (some 107, undef), (some 108, undef), (some 109, undef), (some 110, undef), (some 111, undef), (some 112, undef), (some 113, undef), (some 114, undef), (some 115, undef), (some 116, .bool true)])
                            (by kernel_rfl) (by kernel_rfl) rfl (fun _ => rfl) ?h0 ?hob ?hend
                          case hob =>
                            intro i hi
                            match i, hi with
                            | 0, _ => exact Reg.Ob.pure rfl rfl rfl (fun rs => .int .i64 e0) (fun _ => rfl) (fun rs wx r hs hd hl hk => by
                                have e9 : (r.tmps[9]?).getD undef = .int .i64 e0 := hk 9 (by decide)
                                go_simp)
                            | 1, _ => exact Reg.Ob.pure rfl rfl rfl (fun rs => .bool true) (fun _ => rfl) (fun rs wx r hs hd hl hk => by
                                have e102 : (r.tmps[102]?).getD undef = .int .i64 e0 := hk 102 (by decide)
                                go_simp)
                            | 2, _ => exact Reg.Ob.pure rfl rfl rfl (fun rs => .bool true) (fun _ => rfl) (fun rs wx r hs hd hl hk => by
                                have e103 : (r.tmps[103]?).getD undef = .bool true := hk 103 (by decide)
                                go_simp)
                            | 3, _ => exact Reg.Ob.skip rfl rfl (fun _ => rfl) (fun rs wx hs hd => rfl)
                            | 4, _ => exact Reg.Ob.skip rfl rfl (fun _ => rfl) (fun rs wx hs hd => rfl)
                            | 5, _ => exact Reg.Ob.skip rfl rfl (fun _ => rfl) (fun rs wx hs hd => rfl)
                            | 6, _ => exact Reg.Ob.skip rfl rfl (fun _ => rfl) (fun rs wx hs hd => rfl)
                            | 7, _ => exact Reg.Ob.skip rfl rfl (fun _ => rfl) (fun rs wx hs hd => rfl)
                            | 8, _ => exact Reg.Ob.skip rfl rfl (fun _ => rfl) (fun rs wx hs hd => rfl)
                            | 9, _ => exact Reg.Ob.skip rfl rfl (fun _ => rfl) (fun rs wx hs hd => rfl)
                            | 10, _ => exact Reg.Ob.skip rfl rfl (fun _ => rfl) (fun rs wx hs hd => rfl)
                            | 11, _ => exact Reg.Ob.skip rfl rfl (fun _ => rfl) (fun rs wx hs hd => rfl)
                            | 12, _ => exact Reg.Ob.skip rfl rfl (fun _ => rfl) (fun rs wx hs hd => rfl)
                            | 13, _ => exact Reg.Ob.skip rfl rfl (fun _ => rfl) (fun rs wx hs hd => rfl)
                            | 14, _ => exact Reg.Ob.pure rfl rfl rfl (fun rs => .bool true) (fun _ => rfl) (fun rs wx r hs hd hl hk => by
                                have e104 : (r.tmps[104]?).getD undef = .bool true := hk 104 (by decide)
                                have e115 : (r.tmps[115]?).getD undef = undef := hk 115 (by decide)
                                go_simp)
                            | n + 15, h => exact absurd h (by simp <;> omega)
                          case h0 =>
                            exact ((HY.out.1.trans (HB5.out.mono HY.out.1.size)).alloc (by have := HY.out.1.size; have := HB5.out.size; omega) _).drew
                          case hend =>
                            intro rs wx hs hd
                            simp only [List.foldl_cons, List.foldl_nil, Act.put, List.setIfInBounds_toArray, List.set_cons_zero, List.set_cons_succ]
                            have HE := Lib.hid hs
                            clear hs hd
                            go_wp2_with fail
                            go_ret2
                            exact ⟨HE.out, .inl ⟨HNN.out, rfl⟩⟩
                        | ok rl =>
                          rw [hp] at C2
                          simp only [parseV] at C2
                          have hr1 := parseF_byle5 hp
                          have hr2 := parseF_small hp
                          obtain ⟨eqb, heqb⟩ : ∃ b, ((refWriteS rl).toList == t.toList) = b := ⟨_, rfl⟩
                          have HEB := Lib.hid heqb
                          have HPP := Lib.hid hp
                          have HC2 := Lib.hid C2
                          have HRS := Lib.hid (And.intro hr1 hr2)
                          clear hp C2 hr1 hr2 heqb
                          go_wp2_with fail
                          refine HC2.out.mono ?_
                          rintro e w5 ⟨rfl, hb5⟩
                          have HB5 := Lib.hid hb5
                          clear hb5 HC2
                          go_wp2_with fail
                          clear y0 y1 y2 y3 y4 yX
                          refine Reg.wp_region_puts (A := [[], [0], [1, 0], [2, 1, 0], [3, 2, 1, 0], [2, 1, 0], [5, 2, 1, 0], [2, 1, 0], [6, 5, 2, 1, 0, 7], [8, 6, 5, 2, 1, 0, 7], [2, 1, 0], [9, 8, 6, 5, 2, 1, 0, 7, 10], [11, 9, 8, 6, 5, 2, 1, 0, 7, 10], [4, 3, 2, 1, 0, 12, 11, 9, 8, 6, 5, 7, 10], [2, 1, 0, 13, 4, 3, 12, 11, 9, 8, 6, 5, 7, 10]]) (effs := [4]) (N := 141)
                            (val := fun i r => match i with | 0 => .int .i64 0 | 1 => .bool false | 2 => .bool false | 3 => .agg #[.bool rl.allow, .bool rl.inn, .bool rl.out, .string rl.by_, .string rl.value] | 5 => .pointer (some ⟨w.heap.size, 4, none⟩) | 6 => .slice (some ⟨bT, oT, none⟩) tss.length cT | 7 => .int .i64 k | 8 => .pointer (some ⟨bT, oT + k, none⟩) | 9 => .slice (some ⟨bX, oX, none⟩) tx.length cX | 10 => .int .i64 j | 11 => .pointer (some ⟨bX, oX + j, none⟩) | 12 => .string t | 13 => .bool (!eqb) | 14 => .bool (!eqb) | _ => undef)
                            (Stage := fun rs wx => RpSt w wo wx (.cells #[.int .i64 sl, .int .i64 sr, .string sd, .slice (some ⟨bN, oN, none⟩) ns.length cN, .slice (some ⟨bT, oT, none⟩) tss.length cT] 38) w5.heap.size rl rs)
                            (fun rs => [(some 102, .int .i64 0), (some 103, .bool false), (some 104, .bool false), (some 105, .agg #[.bool rl.allow, .bool rl.inn, .bool rl.out, .string rl.by_, .string rl.value]), (some 106, (rs 4).getD undef), (some 107, .pointer (some ⟨w.heap.size, 4, none⟩)), (some 108, .slice (some ⟨bT, oT, none⟩) tss.length cT), (some 109, .int .i64 k), (some 110, .pointer (some ⟨bT, oT + k, none⟩)), (some 111, .slice (some ⟨bX, oX, none⟩) tx.length cX), (some 112, .int .i64 j), (some 113, .pointer (some ⟨bX, oX + j, none⟩)), (some 114, .string t), (some 115, .bool (!eqb)), (some 116, .bool (!eqb))])
                            (by kernel_rfl) (by kernel_rfl) rfl (fun _ => rfl) ?h0 ?hob ?hend
                          case hob =>
                            intro i hi
                            match i, hi with
                            | 0, _ => exact Reg.Ob.pure rfl rfl rfl (fun rs => .int .i64 0) (fun _ => rfl) (fun rs wx r hs hd hl hk => by
                                have e9 : (r.tmps[9]?).getD undef = .int .i64 0 := hk 9 (by decide)
                                go_simp)
                            | 1, _ => exact Reg.Ob.pure rfl rfl rfl (fun rs => .bool false) (fun _ => rfl) (fun rs wx r hs hd hl hk => by
                                have e102 : (r.tmps[102]?).getD undef = .int .i64 0 := hk 102 (by decide)
                                go_simp)
                            | 2, _ => exact Reg.Ob.pure rfl rfl rfl (fun rs => .bool false) (fun _ => rfl) (fun rs wx r hs hd hl hk => by
                                have e103 : (r.tmps[103]?).getD undef = .bool false := hk 103 (by decide)
                                go_simp)
                            | 3, _ => exact Reg.Ob.guarded rfl rfl (fun rs => .agg #[.bool rl.allow, .bool rl.inn, .bool rl.out, .string rl.by_, .string rl.value]) (fun _ => rfl) (fun rs wx hs hd => rfl) (fun rs wx r hs hd hl hk => by
                                have e8 : (r.tmps[8]?).getD undef = .pointer (some ⟨w5.heap.size, 0, none⟩) := hk 8 (by decide)
                                have c0 := blk_cell hs.rbox 0
                                have c1 := blk_cell hs.rbox 1
                                have c2 := blk_cell hs.rbox 2
                                have c3 := blk_cell hs.rbox 3
                                have c4 := blk_cell hs.rbox 4
                                go_simp)
                            | 4, _ =>
                              refine Reg.Ob.geff rfl rfl (fun rs wx hs hd => rfl) ?_
                              intro rs wx r hs hd hn hl hk K hK
                              have e105 : (r.tmps[105]?).getD undef = .agg #[.bool rl.allow, .bool rl.inn, .bool rl.out, .string rl.by_, .string rl.value] := hk 105 (by decide)
                              have C := refwrite_any rl (by have := HRS.out; omega) (by have := HRS.out; have := HTJ.out; omega) wx
                              have HC := Lib.hid C
                              clear C
                              have HS := Lib.hid hs
                              have HN' := Lib.hid hn
                              have HL := Lib.hid hl
                              have HKK := Lib.hid hK
                              clear hs hn hd hl hk hK
                              go_simp
                              refine HC.out.mono ?_
                              rintro e w5 ⟨rfl, hb5⟩
                              refine HKK.out _ _ ⟨HS.out.below.trans (hb5.mono HS.out.below.size), HS.out.old.trans (hb5.mono HS.out.old.size), blk_below HS.out.box hb5 (blk_lt HS.out.box), blk_below HS.out.rbox hb5 (blk_lt HS.out.rbox), fun u hu => ?_⟩
                              have h2 : some (Value.string (refWriteS rl)) = some u := hu
                              cases h2
                              rfl
                            | 5, _ => exact Reg.Ob.guarded rfl rfl (fun rs => .pointer (some ⟨w.heap.size, 4, none⟩)) (fun _ => rfl) (fun rs wx hs hd => rfl) (fun rs wx r hs hd hl hk => by
                                have e1 : (r.tmps[1]?).getD undef = .pointer (some ⟨w.heap.size, 0, none⟩) := hk 1 (by decide)
                                go_simp)
                            | 6, _ => exact Reg.Ob.guarded rfl rfl (fun rs => .slice (some ⟨bT, oT, none⟩) tss.length cT) (fun _ => rfl) (fun rs wx hs hd => rfl) (fun rs wx r hs hd hl hk => by
                                have e107 : (r.tmps[107]?).getD undef = .pointer (some ⟨w.heap.size, 4, none⟩) := hk 107 (by decide)
                                have c1 : wx.cell? ⟨w.heap.size, 4, none⟩ = some (.slice (some ⟨bT, oT, none⟩) tss.length cT) := blk_cell hs.box 4
                                go_simp)
                            | 7, _ => exact Reg.Ob.guarded rfl rfl (fun rs => .int .i64 k) (fun _ => rfl) (fun rs wx hs hd => rfl) (fun rs wx r hs hd hl hk => by
                                have e6 : (r.tmps[6]?).getD undef = .int .i64 k := hk 6 (by decide)
                                go_simp)
                            | 8, _ => exact Reg.Ob.guarded rfl rfl (fun rs => .pointer (some ⟨bT, oT + k, none⟩)) (fun _ => rfl) (fun rs wx hs hd => rfl) (fun rs wx r hs hd hl hk => by
                                have e108 : (r.tmps[108]?).getD undef = .slice (some ⟨bT, oT, none⟩) tss.length cT := hk 108 (by decide)
                                have e109 : (r.tmps[109]?).getD undef = .int .i64 k := hk 109 (by decide)
                                go_simp)
                            | 9, _ => exact Reg.Ob.guarded rfl rfl (fun rs => .slice (some ⟨bX, oX, none⟩) tx.length cX) (fun _ => rfl) (fun rs wx hs hd => rfl) (fun rs wx r hs hd hl hk => by
                                have e110 : (r.tmps[110]?).getD undef = .pointer (some ⟨bT, oT + k, none⟩) := hk 110 (by decide)
                                have c1 : wx.cell? ⟨bT, oT + k, none⟩ = some (.slice (some ⟨bX, oX, none⟩) tx.length cX) := (hs.below.cell (p := ⟨bT, oT + k, none⟩) hbT).trans yT
                                go_simp)
                            | 10, _ => exact Reg.Ob.guarded rfl rfl (fun rs => .int .i64 j) (fun _ => rfl) (fun rs wx hs hd => rfl) (fun rs wx r hs hd hl hk => by
                                have e7 : (r.tmps[7]?).getD undef = .int .i64 j := hk 7 (by decide)
                                go_simp)
                            | 11, _ => exact Reg.Ob.guarded rfl rfl (fun rs => .pointer (some ⟨bX, oX + j, none⟩)) (fun _ => rfl) (fun rs wx hs hd => rfl) (fun rs wx r hs hd hl hk => by
                                have e111 : (r.tmps[111]?).getD undef = .slice (some ⟨bX, oX, none⟩) tx.length cX := hk 111 (by decide)
                                have e112 : (r.tmps[112]?).getD undef = .int .i64 j := hk 112 (by decide)
                                go_simp)
                            | 12, _ => exact Reg.Ob.guarded rfl rfl (fun rs => .string t) (fun _ => rfl) (fun rs wx hs hd => rfl) (fun rs wx r hs hd hl hk => by
                                have e113 : (r.tmps[113]?).getD undef = .pointer (some ⟨bX, oX + j, none⟩) := hk 113 (by decide)
                                have c1 : wx.cell? ⟨bX, oX + j, none⟩ = some (.string t) := (hs.below.cell (p := ⟨bX, oX + j, none⟩) hbX).trans yX0
                                go_simp)
                            | 13, _ => exact Reg.Ob.guarded rfl rfl (fun rs => .bool (!eqb)) (fun _ => rfl) (fun rs wx hs hd => rfl) (fun rs wx r hs hd hl hk => by
                                have e106 : (r.tmps[106]?).getD undef = ((rs 4).getD undef) := hk 106 (by decide)
                                have e114 : (r.tmps[114]?).getD undef = .string t := hk 114 (by decide)
                                obtain ⟨u4, hu4⟩ := hd 4 (by decide) (by decide)
                                obtain rfl := hs.txt u4 hu4
                                rw [hu4] at e106
                                simp only [Option.getD_some] at e106
                                have t9 := HEB.out
                                clear hu4
                                go_simp)
                            | 14, _ => exact Reg.Ob.pure rfl rfl rfl (fun rs => .bool (!eqb)) (fun _ => rfl) (fun rs wx r hs hd hl hk => by
                                have e104 : (r.tmps[104]?).getD undef = .bool false := hk 104 (by decide)
                                have e115 : (r.tmps[115]?).getD undef = .bool (!eqb) := hk 115 (by decide)
                                go_simp)
                            | n + 15, h => exact absurd h (by simp <;> omega)
                          case h0 =>
                            exact ⟨((HY.out.1.trans (HB5.out.mono HY.out.1.size)).alloc (by have := HY.out.1.size; have := HB5.out.size; omega) _).drew, ((HY.out.2.2.trans (HB5.out.mono HY.out.2.2.size)).alloc (by have := HY.out.2.2.size; have := HB5.out.size; omega) _).drew, blk_alloc (blk_below HY.out.2.1 HB5.out (blk_lt HY.out.2.1)) _, blk_new _ _, fun u hu => (by cases hu)⟩
                          case hend =>
                            intro rs wx hs hd
                            obtain ⟨u4, hu4⟩ := hd 4 (by decide) (by decide)
                            obtain rfl := hs.txt u4 hu4
                            simp only [List.foldl_cons, List.foldl_nil, Act.put, List.setIfInBounds_toArray, List.set_cons_zero, List.set_cons_succ]
                            rw [hu4]
                            simp only [Option.getD_some]
                            have HE := Lib.hid (And.intro hs.below hs.old)
                            clear hs hd hu4
                            cases eqb with
                            | false =>
                              have HNN : Hid (RES = none) := Lib.hid (HNONE.out (.inr (.inr (.inr (.inl (fun h => by
                                obtain ⟨r', h1, h2⟩ := h t (List.mem_of_getElem? HTJ.out.1)
                                rw [HPP.out] at h1
                                cases h1
                                have := HEB.out
                                rw [toList_beq, decide_eq_false_iff_not] at this
                                exact this h2))))))
                              clear HEB
                              go_wp2_with fail
                              go_ret2
                              exact ⟨HE.out.1, .inl ⟨HNN.out, rfl⟩⟩
                            | true =>
                              have HW2 : Hid (refWriteS rl = t) := Lib.hid (by have := HEB.out; rw [toList_beq, decide_eq_true_eq] at this; exact this)
                              clear HEB
                              go_wp2_with fail
                              go_roundg (tx.length - (j + 1))
                              case measure => have := HJ.out.2.1; have := HTJ.out.2.2; omega
                              case rel =>
                                refine ⟨j + 1, by have := HTJ.out.2.2; omega, rfl, by go_num, HE.out.2, fun i t' hi ht' => ?_⟩
                                by_cases e : i = j
                                · subst e
                                  rw [HTJ.out.1] at ht'
                                  cases ht'
                                  exact ⟨rl, HPP.out, HW2.out⟩
                                · exact HJ.out.2.2 i t' (by omega) ht'
                      · have e : j = tx.length := by have := HJ.out.1; omega
                        have htok : txOk tx := fun t ht => by
                          obtain ⟨i, hi, hti⟩ := List.getElem_of_mem ht
                          exact HJ.out.2.2 i t (by omega) (by rw [List.getElem?_eq_getElem hi, hti])
                        have HOK := Lib.hid htok
                        clear htok
                        subst e
                        have s2 : ¬ (tx.length : Int) < (tx.length : Int) := by omega
                        obtain ⟨X, hX⟩ : ∃ X, (S.set n tx).2 = X := ⟨_, rfl⟩
                        obtain ⟨d, hd0⟩ : ∃ d, (S.set n tx).1 = d := ⟨_, rfl⟩
                        have HXD := Lib.hid (And.intro hX hd0)
                        clear hX hd0 hjl
                        go_wp2_with fail
                        clear y0 y1 y2 y3 y4
                        refine Reg.wp_region_puts (A := [[], [], [1], [], [2, 1, 3], [4, 2, 1, 3], [], [6], [], [7, 6, 8], [9, 7, 6, 8], [0, 5, 4, 2, 1, 3, 10, 9, 7, 6, 8], [11, 0, 5, 4, 2, 1, 3, 10, 9, 7, 6, 8]]) (effs := [11]) (N := 141)
                          (val := fun i r => match i with | 0 => .pointer (some ⟨qb, 0, none⟩) | 1 => .pointer (some ⟨w.heap.size, 3, none⟩) | 2 => .slice (some ⟨bN, oN, none⟩) ns.length cN | 3 => .int .i64 k | 4 => .pointer (some ⟨bN, oN + k, none⟩) | 5 => .string n | 6 => .pointer (some ⟨w.heap.size, 4, none⟩) | 7 => .slice (some ⟨bT, oT, none⟩) tss.length cT | 8 => .int .i64 k | 9 => .pointer (some ⟨bT, oT + k, none⟩) | 10 => .slice AX tx.length cX | 12 => .bool (d != 0) | _ => undef)
                          (Stage := fun rs wx => RsSt w wx (.cells #[.int .i64 sl, .int .i64 sr, .string sd, .slice (some ⟨bN, oN, none⟩) ns.length cN, .slice (some ⟨bT, oT, none⟩) tss.length cT] 38) qb S X d rs)
                          (fun rs => [(some 117, .pointer (some ⟨qb, 0, none⟩)), (some 118, .pointer (some ⟨w.heap.size, 3, none⟩)), (some 119, .slice (some ⟨bN, oN, none⟩) ns.length cN), (some 120, .int .i64 k), (some 121, .pointer (some ⟨bN, oN + k, none⟩)), (some 122, .string n), (some 123, .pointer (some ⟨w.heap.size, 4, none⟩)), (some 124, .slice (some ⟨bT, oT, none⟩) tss.length cT), (some 125, .int .i64 k), (some 126, .pointer (some ⟨bT, oT + k, none⟩)), (some 127, .slice AX tx.length cX), (some 128, (rs 11).getD undef), (some 129, .bool (d != 0))])
                          (by kernel_rfl) (by kernel_rfl) rfl (fun _ => rfl) ?h0 ?hob ?hend
                        case hob =>
                          intro i hi
                          match i, hi with
                          | 0, _ => exact Reg.Ob.pure rfl rfl rfl (fun rs => .pointer (some ⟨qb, 0, none⟩)) (fun _ => rfl) (fun rs wx r hs hd hl hk => by
                              have e4 : (r.tmps[4]?).getD undef = .pointer (some ⟨qb, 0, none⟩) := hk 4 (by decide)
                              go_simp)
                          | 1, _ => exact Reg.Ob.pure rfl rfl rfl (fun rs => .pointer (some ⟨w.heap.size, 3, none⟩)) (fun _ => rfl) (fun rs wx r hs hd hl hk => by
                              have e1 : (r.tmps[1]?).getD undef = .pointer (some ⟨w.heap.size, 0, none⟩) := hk 1 (by decide)
                              go_simp)
                          | 2, _ => exact Reg.Ob.pure rfl rfl rfl (fun rs => .slice (some ⟨bN, oN, none⟩) ns.length cN) (fun _ => rfl) (fun rs wx r hs hd hl hk => by
                              have e118 : (r.tmps[118]?).getD undef = .pointer (some ⟨w.heap.size, 3, none⟩) := hk 118 (by decide)
                              have c1 : wx.cell? ⟨w.heap.size, 3, none⟩ = some (.slice (some ⟨bN, oN, none⟩) ns.length cN) := blk_cell hs.box 3
                              go_simp)
                          | 3, _ => exact Reg.Ob.pure rfl rfl rfl (fun rs => .int .i64 k) (fun _ => rfl) (fun rs wx r hs hd hl hk => by
                              have e6 : (r.tmps[6]?).getD undef = .int .i64 k := hk 6 (by decide)
                              go_simp)
                          | 4, _ => exact Reg.Ob.pure rfl rfl rfl (fun rs => .pointer (some ⟨bN, oN + k, none⟩)) (fun _ => rfl) (fun rs wx r hs hd hl hk => by
                              have e119 : (r.tmps[119]?).getD undef = .slice (some ⟨bN, oN, none⟩) ns.length cN := hk 119 (by decide)
                              have e120 : (r.tmps[120]?).getD undef = .int .i64 k := hk 120 (by decide)
                              go_simp)
                          | 5, _ => exact Reg.Ob.pure rfl rfl rfl (fun rs => .string n) (fun _ => rfl) (fun rs wx r hs hd hl hk => by
                              have e121 : (r.tmps[121]?).getD undef = .pointer (some ⟨bN, oN + k, none⟩) := hk 121 (by decide)
                              have c1 : wx.cell? ⟨bN, oN + k, none⟩ = some (.string n) := (hs.below.cell (p := ⟨bN, oN + k, none⟩) hbN).trans yN0
                              go_simp)
                          | 6, _ => exact Reg.Ob.pure rfl rfl rfl (fun rs => .pointer (some ⟨w.heap.size, 4, none⟩)) (fun _ => rfl) (fun rs wx r hs hd hl hk => by
                              have e1 : (r.tmps[1]?).getD undef = .pointer (some ⟨w.heap.size, 0, none⟩) := hk 1 (by decide)
                              go_simp)
                          | 7, _ => exact Reg.Ob.pure rfl rfl rfl (fun rs => .slice (some ⟨bT, oT, none⟩) tss.length cT) (fun _ => rfl) (fun rs wx r hs hd hl hk => by
                              have e123 : (r.tmps[123]?).getD undef = .pointer (some ⟨w.heap.size, 4, none⟩) := hk 123 (by decide)
                              have c1 : wx.cell? ⟨w.heap.size, 4, none⟩ = some (.slice (some ⟨bT, oT, none⟩) tss.length cT) := blk_cell hs.box 4
                              go_simp)
                          | 8, _ => exact Reg.Ob.pure rfl rfl rfl (fun rs => .int .i64 k) (fun _ => rfl) (fun rs wx r hs hd hl hk => by
                              have e6 : (r.tmps[6]?).getD undef = .int .i64 k := hk 6 (by decide)
                              go_simp)
                          | 9, _ => exact Reg.Ob.pure rfl rfl rfl (fun rs => .pointer (some ⟨bT, oT + k, none⟩)) (fun _ => rfl) (fun rs wx r hs hd hl hk => by
                              have e124 : (r.tmps[124]?).getD undef = .slice (some ⟨bT, oT, none⟩) tss.length cT := hk 124 (by decide)
                              have e125 : (r.tmps[125]?).getD undef = .int .i64 k := hk 125 (by decide)
                              go_simp)
                          | 10, _ => exact Reg.Ob.pure rfl rfl rfl (fun rs => .slice AX tx.length cX) (fun _ => rfl) (fun rs wx r hs hd hl hk => by
                              have e126 : (r.tmps[126]?).getD undef = .pointer (some ⟨bT, oT + k, none⟩) := hk 126 (by decide)
                              have c1 : wx.cell? ⟨bT, oT + k, none⟩ = some (.slice AX tx.length cX) := (hs.below.cell (p := ⟨bT, oT + k, none⟩) hbT).trans yT
                              go_simp)
                          | 11, _ =>
                            refine Reg.Ob.eff rfl rfl rfl ?_
                            intro rs wx r hs hd hn hl hk K hK
                            have e117 : (r.tmps[117]?).getD undef = .pointer (some ⟨qb, 0, none⟩) := hk 117 (by decide)
                            have e122 : (r.tmps[122]?).getD undef = .string n := hk 122 (by decide)
                            have e127 : (r.tmps[127]?).getD undef = .slice AX tx.length cX := hk 127 (by decide)
                            have hr0 := hs.old hn
                            have C := rset17_any hr0 n (HZN.out.1) (.slice AX tx.length cX) tx (HTX.out.2.1.below hs.below) HZN.out.2.1 HZN.out.2.2 (by have := HK.out.1; have := HZ.out.2.1; have := HX.out.2.2.2.2.1; omega) hs.below.size
                            rw [HXD.out.1, HXD.out.2] at C
                            have HC := Lib.hid (And.intro C hr0)
                            clear C hr0
                            have HS := Lib.hid hs
                            have HN' := Lib.hid hn
                            have HL := Lib.hid hl
                            have HKK := Lib.hid hK
                            clear hs hn hd hl hk hK
                            go_simp
                            refine HC.out.1.mono ?_
                            rintro e w5 ⟨rfl, hr5, hu5⟩
                            refine HKK.out _ _ ⟨below_refd HS.out.below HC.out.2 hu5 HS.out.below.size, box_refd HS.out.box (by decide) HC.out.2 hu5, fun h => (by simp [Reg.upd] at h), fun u hu => ?_⟩
                            have h2 : some (Value.int .i64 d) = some u := hu
                            cases h2
                            exact ⟨rfl, hr5⟩
                          | 12, _ => exact Reg.Ob.pure rfl rfl rfl (fun rs => .bool (d != 0)) (fun _ => rfl) (fun rs wx r hs hd hl hk => by
                              have e128 : (r.tmps[128]?).getD undef = ((rs 11).getD undef) := hk 128 (by decide)
                              obtain ⟨u11, hu11⟩ := hd 11 (by decide) (by decide)
                              obtain ⟨rfl, _⟩ := hs.new u11 hu11
                              rw [hu11] at e128
                              simp only [Option.getD_some] at e128
                              clear hu11
                              go_simp)
                          | n + 13, h => exact absurd h (by simp <;> omega)
                        case h0 =>
                          exact ⟨HY.out.1.drew, HY.out.2.1, fun _ => HX.out.2.2.1.below (HY.out.2.2.trans ((below_drewNs wr 1).mono HY.out.2.2.size)), fun u hu => (by cases hu)⟩
                        case hend =>
                          intro rs wx hs hd
                          obtain ⟨u11, hu11⟩ := hd 11 (by decide) (by decide)
                          obtain ⟨rfl, hnew⟩ := hs.new u11 hu11
                          simp only [List.foldl_cons, List.foldl_nil, Act.put, List.setIfInBounds_toArray, List.set_cons_zero, List.set_cons_succ]
                          rw [hu11]
                          simp only [Option.getD_some]
                          have HE := Lib.hid (And.intro hs.below (And.intro hs.box hnew))
                          clear hs hd hu11 hnew
                          by_cases hd0 : d = 0
                          · subst hd0
                            have hs1 : uptoR (RL.new sl sr) ns tss (k + 1) = some X := by rw [HST2.out, stepR_some HUN.out HWD.out.2 (Int.not_lt.2 HNV.out) HOK.out HXD.out.2, HXD.out.1]
                            have HS1 := Lib.hid hs1
                            clear hs1
                            go_wp2_with fail
                            go_roundg (ns.length - (k + 1))
                            case measure => have := HK.out.2; have := HTX.out.2.2.2; omega
                            case rel => exact ⟨k + 1, X, by have := HTX.out.2.2.2; omega, rfl, by go_num, HE.out.1, HE.out.2.1, HE.out.2.2, HS1.out, uptoR_len HS0.out HS1.out, (uptoR_keeps HS1.out).1, (uptoR_keeps HS1.out).2.2⟩
                          · have HNN : Hid (RES = none) := Lib.hid (HNONE.out (.inr (.inr (.inr (.inr (by rw [HXD.out.2]; exact hd0))))))
                            have t6 : (d != 0) = true := by simpa using hd0
                            clear hd0
                            go_wp2_with fail
                            go_ret2
                            exact ⟨HE.out.1, .inl ⟨HNN.out, rfl⟩⟩
              · have t6 : (c != 0) = true := by simpa using hc0
                have HNN : Hid (RES = none) := Lib.hid (HNONE.out (.inr (.inl (by rw [HWD.out.2]; exact hc0))))
                clear hc0
                go_wp2_with fail
                clear y0 y1 y2 y3 y4 yN
                refine Reg.wp_region_puts (A := [[], [0], [1, 0], [2, 1, 0], [3, 2, 1, 0], [2, 1, 0], [5, 2, 1, 0], [4, 3, 2, 1, 0, 6, 5], [7, 4, 3, 2, 1, 0, 6, 5], [2, 1, 0], [9, 2, 1, 0], [2, 1, 0], [10, 9, 2, 1, 0, 11], [12, 10, 9, 2, 1, 0, 11], [8, 7, 4, 3, 2, 1, 0, 6, 5, 13, 12, 10, 9, 11], [2, 1, 0, 14, 8, 7, 4, 3, 6, 5, 13, 12, 10, 9, 11], [15, 2, 1, 0, 14, 8, 7, 4, 3, 6, 5, 13, 12, 10, 9, 11], [16, 15, 2, 1, 0, 14, 8, 7, 4, 3, 6, 5, 13, 12, 10, 9, 11], [17, 16, 15, 2, 1, 0, 14, 8, 7, 4, 3, 6, 5, 13, 12, 10, 9, 11], [16, 15, 2, 1, 0, 14, 8, 7, 4, 3, 6, 5, 13, 12, 10, 9, 11], [18, 17, 16, 15, 2, 1, 0, 14, 8, 7, 4, 3, 6, 5, 13, 12, 10, 9, 11, 19], [20, 18, 17, 16, 15, 2, 1, 0, 14, 8, 7, 4, 3, 6, 5, 13, 12, 10, 9, 11, 19], [21, 20, 18, 17, 16, 15, 2, 1, 0, 14, 8, 7, 4, 3, 6, 5, 13, 12, 10, 9, 11, 19], [22, 21, 20, 18, 17, 16, 15, 2, 1, 0, 14, 8, 7, 4, 3, 6, 5, 13, 12, 10, 9, 11, 19], [16, 15, 2, 1, 0, 14, 8, 7, 4, 3, 6, 5, 13, 12, 10, 9, 11, 23, 22, 21, 20, 18, 17, 19], [24, 16, 15, 2, 1, 0, 14, 8, 7, 4, 3, 6, 5, 13, 12, 10, 9, 11, 23, 22, 21, 20, 18, 17, 19], [25, 24, 16, 15, 2, 1, 0, 14, 8, 7, 4, 3, 6, 5, 13, 12, 10, 9, 11, 23, 22, 21, 20, 18, 17, 19], [26, 25, 24, 16, 15, 2, 1, 0, 14, 8, 7, 4, 3, 6, 5, 13, 12, 10, 9, 11, 23, 22, 21, 20, 18, 17, 19], [25, 24, 16, 15, 2, 1, 0, 14, 8, 7, 4, 3, 6, 5, 13, 12, 10, 9, 11, 23, 22, 21, 20, 18, 17, 19], [27, 26, 25, 24, 16, 15, 2, 1, 0, 14, 8, 7, 4, 3, 6, 5, 13, 12, 10, 9, 11, 23, 22, 21, 20, 18, 17, 19, 28], [29, 27, 26, 25, 24, 16, 15, 2, 1, 0, 14, 8, 7, 4, 3, 6, 5, 13, 12, 10, 9, 11, 23, 22, 21, 20, 18, 17, 19, 28], [30, 29, 27, 26, 25, 24, 16, 15, 2, 1, 0, 14, 8, 7, 4, 3, 6, 5, 13, 12, 10, 9, 11, 23, 22, 21, 20, 18, 17, 19, 28], [25, 24, 16, 15, 2, 1, 0, 14, 8, 7, 4, 3, 6, 5, 13, 12, 10, 9, 11, 23, 22, 21, 20, 18, 17, 19], [32, 25, 24, 16, 15, 2, 1, 0, 14, 8, 7, 4, 3, 6, 5, 13, 12, 10, 9, 11, 23, 22, 21, 20, 18, 17, 19], [31, 30, 29, 27, 26, 25, 24, 16, 15, 2, 1, 0, 14, 8, 7, 4, 3, 6, 5, 13, 12, 10, 9, 11, 23, 22, 21, 20, 18, 17, 19, 28, 33, 32], [25, 24, 16, 15, 2, 1, 0, 14, 8, 7, 4, 3, 6, 5, 13, 12, 10, 9, 11, 23, 22, 21, 20, 18, 17, 19, 34, 31, 30, 29, 27, 26, 28, 33, 32]]) (effs := [22]) (N := 141)
                  (val := fun i r => match i with | 0 => .int .i64 k | 1 => .bool false | 2 => .bool false | 3 => undef | 4 => undef | 5 => undef | 6 => undef | 7 => undef | 8 => undef | 9 => undef | 10 => undef | 11 => undef | 12 => undef | 13 => undef | 14 => undef | 15 => .bool false | 16 => .bool false | 17 => .pointer (some ⟨w.heap.size, 3, none⟩) | 18 => .slice (some ⟨bN, oN, none⟩) ns.length cN | 19 => .int .i64 k | 20 => .pointer (some ⟨bN, oN + k, none⟩) | 21 => .string n | 23 => .bool true | 24 => .bool true | 25 => .bool true | 26 => undef | 27 => undef | 28 => undef | 29 => undef | 30 => undef | 31 => undef | 32 => undef | 33 => undef | 34 => undef | 35 => .bool true | _ => undef)
                  (Stage := fun rs wx => RlSt w wr wx (.cells #[.int .i64 sl, .int .i64 sr, .string sd, .slice (some ⟨bN, oN, none⟩) ns.length cN, .slice (some ⟨bT, oT, none⟩) tss.length cT] 38) c rs)
                  (fun rs => [(some 44, .int .i64 k), (some 45, .bool false), (some 46, .bool false), (some 47, undef), (some 48, undef), (some 49, undef), (some 50, undef), (some 51, undef), (some 52, undef), (some 53, undef), (some 54, undef), (some 55, undef), (some 56, undef), (some 57, undef), (some 58, undef), (some 59, .bool false), (some 60, .bool false), (some 61, .pointer (some ⟨w.heap.size, 3, none⟩)), (some 62, .slice (some ⟨bN, oN, none⟩) ns.length cN), (some 63, .int .i64 k), (some 64, .pointer (some ⟨bN, oN + k, none⟩)), (some 65, .string n), (some 66, (rs 22).getD undef), (some 67, .bool true), (some 68, .bool true), (some 69, .bool true), (some 70, undef), (some 71, undef), (some 72, undef), (some 73, undef), (some 74, undef), (some 75, undef), (some 76, undef), (some 77, undef), (some 78, undef), (some 79, .bool true)])
                  (by kernel_rfl) (by kernel_rfl) rfl (fun _ => rfl) ?h0 ?hob ?hend
                case hob =>
                  intro i hi
                  match i, hi with
                  | 0, _ => exact Reg.Ob.pure rfl rfl rfl (fun rs => .int .i64 k) (fun _ => rfl) (fun rs wx r hs hd hl hk => by
                      have e6 : (r.tmps[6]?).getD undef = .int .i64 k := hk 6 (by decide)
                      go_simp)
                  | 1, _ => exact Reg.Ob.pure rfl rfl rfl (fun rs => .bool false) (fun _ => rfl) (fun rs wx r hs hd hl hk => by
                      have e44 : (r.tmps[44]?).getD undef = .int .i64 k := hk 44 (by decide)
                      have t9 := HK0.out
                      go_simp)
                  | 2, _ => exact Reg.Ob.pure rfl rfl rfl (fun rs => .bool false) (fun _ => rfl) (fun rs wx r hs hd hl hk => by
                      have e45 : (r.tmps[45]?).getD undef = .bool false := hk 45 (by decide)
                      go_simp)
                  | 3, _ => exact Reg.Ob.skip rfl rfl (fun _ => rfl) (fun rs wx hs hd => rfl)
                  | 4, _ => exact Reg.Ob.skip rfl rfl (fun _ => rfl) (fun rs wx hs hd => rfl)
                  | 5, _ => exact Reg.Ob.skip rfl rfl (fun _ => rfl) (fun rs wx hs hd => rfl)
                  | 6, _ => exact Reg.Ob.skip rfl rfl (fun _ => rfl) (fun rs wx hs hd => rfl)
                  | 7, _ => exact Reg.Ob.skip rfl rfl (fun _ => rfl) (fun rs wx hs hd => rfl)
                  | 8, _ => exact Reg.Ob.skip rfl rfl (fun _ => rfl) (fun rs wx hs hd => rfl)
                  | 9, _ => exact Reg.Ob.skip rfl rfl (fun _ => rfl) (fun rs wx hs hd => rfl)
                  | 10, _ => exact Reg.Ob.skip rfl rfl (fun _ => rfl) (fun rs wx hs hd => rfl)
                  | 11, _ => exact Reg.Ob.skip rfl rfl (fun _ => rfl) (fun rs wx hs hd => rfl)
                  | 12, _ => exact Reg.Ob.skip rfl rfl (fun _ => rfl) (fun rs wx hs hd => rfl)
                  | 13, _ => exact Reg.Ob.skip rfl rfl (fun _ => rfl) (fun rs wx hs hd => rfl)
                  | 14, _ => exact Reg.Ob.skip rfl rfl (fun _ => rfl) (fun rs wx hs hd => rfl)
                  | 15, _ => exact Reg.Ob.pure rfl rfl rfl (fun rs => .bool false) (fun _ => rfl) (fun rs wx r hs hd hl hk => by
                      have e46 : (r.tmps[46]?).getD undef = .bool false := hk 46 (by decide)
                      have e58 : (r.tmps[58]?).getD undef = undef := hk 58 (by decide)
                      go_simp)
                  | 16, _ => exact Reg.Ob.pure rfl rfl rfl (fun rs => .bool false) (fun _ => rfl) (fun rs wx r hs hd hl hk => by
                      have e59 : (r.tmps[59]?).getD undef = .bool false := hk 59 (by decide)
                      go_simp)
                  | 17, _ => exact Reg.Ob.guarded rfl rfl (fun rs => .pointer (some ⟨w.heap.size, 3, none⟩)) (fun _ => rfl) (fun rs wx hs hd => rfl) (fun rs wx r hs hd hl hk => by
                      have e1 : (r.tmps[1]?).getD undef = .pointer (some ⟨w.heap.size, 0, none⟩) := hk 1 (by decide)
                      go_simp)
                  | 18, _ => exact Reg.Ob.guarded rfl rfl (fun rs => .slice (some ⟨bN, oN, none⟩) ns.length cN) (fun _ => rfl) (fun rs wx hs hd => rfl) (fun rs wx r hs hd hl hk => by
                      have e61 : (r.tmps[61]?).getD undef = .pointer (some ⟨w.heap.size, 3, none⟩) := hk 61 (by decide)
                      have c1 : wx.cell? ⟨w.heap.size, 3, none⟩ = some (.slice (some ⟨bN, oN, none⟩) ns.length cN) := blk_cell hs.box 3
                      go_simp)
                  | 19, _ => exact Reg.Ob.guarded rfl rfl (fun rs => .int .i64 k) (fun _ => rfl) (fun rs wx hs hd => rfl) (fun rs wx r hs hd hl hk => by
                      have e6 : (r.tmps[6]?).getD undef = .int .i64 k := hk 6 (by decide)
                      go_simp)
                  | 20, _ => exact Reg.Ob.guarded rfl rfl (fun rs => .pointer (some ⟨bN, oN + k, none⟩)) (fun _ => rfl) (fun rs wx hs hd => rfl) (fun rs wx r hs hd hl hk => by
                      have e62 : (r.tmps[62]?).getD undef = .slice (some ⟨bN, oN, none⟩) ns.length cN := hk 62 (by decide)
                      have e63 : (r.tmps[63]?).getD undef = .int .i64 k := hk 63 (by decide)
                      go_simp)
                  | 21, _ => exact Reg.Ob.guarded rfl rfl (fun rs => .string n) (fun _ => rfl) (fun rs wx hs hd => rfl) (fun rs wx r hs hd hl hk => by
                      have e64 : (r.tmps[64]?).getD undef = .pointer (some ⟨bN, oN + k, none⟩) := hk 64 (by decide)
                      have c1 : wx.cell? ⟨bN, oN + k, none⟩ = some (.string n) := (hs.below.cell (p := ⟨bN, oN + k, none⟩) hbN).trans yN0
                      go_simp)
                  | 22, _ =>
                    refine Reg.Ob.geff rfl rfl (fun rs wx hs hd => rfl) ?_
                    intro rs wx r hs hd hn hl hk K hK
                    have e65 : (r.tmps[65]?).getD undef = .string n := hk 65 (by decide)
                    have HS := Lib.hid hs
                    have HN' := Lib.hid hn
                    have HL := Lib.hid hl
                    have HKK := Lib.hid hK
                    clear hs hn hd hl hk hK
                    go_simp
                    refine (HWD.out.1 wx).mono ?_
                    rintro e w5 ⟨rfl, hb5⟩
                    refine HKK.out _ _ ⟨HS.out.below.trans (hb5.mono HS.out.below.size), HS.out.old.trans (hb5.mono HS.out.old.size), blk_below HS.out.box hb5 (blk_lt HS.out.box), fun u hu => ?_⟩
                    have h2 : some (Value.int .i64 c) = some u := hu
                    cases h2
                    rfl
                  | 23, _ => exact Reg.Ob.guarded rfl rfl (fun rs => .bool true) (fun _ => rfl) (fun rs wx hs hd => rfl) (fun rs wx r hs hd hl hk => by
                      have e66 : (r.tmps[66]?).getD undef = ((rs 22).getD undef) := hk 66 (by decide)
                      obtain ⟨u22, hu22⟩ := hd 22 (by decide) (by decide)
                      obtain rfl := hs.num u22 hu22
                      rw [hu22] at e66
                      simp only [Option.getD_some] at e66
                      clear hu22
                      go_simp)
                  | 24, _ => exact Reg.Ob.pure rfl rfl rfl (fun rs => .bool true) (fun _ => rfl) (fun rs wx r hs hd hl hk => by
                      have e60 : (r.tmps[60]?).getD undef = .bool false := hk 60 (by decide)
                      have e67 : (r.tmps[67]?).getD undef = .bool true := hk 67 (by decide)
                      go_simp)
                  | 25, _ => exact Reg.Ob.pure rfl rfl rfl (fun rs => .bool true) (fun _ => rfl) (fun rs wx r hs hd hl hk => by
                      have e68 : (r.tmps[68]?).getD undef = .bool true := hk 68 (by decide)
                      go_simp)
                  | 26, _ => exact Reg.Ob.skip rfl rfl (fun _ => rfl) (fun rs wx hs hd => rfl)
                  | 27, _ => exact Reg.Ob.skip rfl rfl (fun _ => rfl) (fun rs wx hs hd => rfl)
                  | 28, _ => exact Reg.Ob.skip rfl rfl (fun _ => rfl) (fun rs wx hs hd => rfl)
                  | 29, _ => exact Reg.Ob.skip rfl rfl (fun _ => rfl) (fun rs wx hs hd => rfl)
                  | 30, _ => exact Reg.Ob.skip rfl rfl (fun _ => rfl) (fun rs wx hs hd => rfl)
                  | 31, _ => exact Reg.Ob.skip rfl rfl (fun _ => rfl) (fun rs wx hs hd => rfl)
                  | 32, _ => exact Reg.Ob.skip rfl rfl (fun _ => rfl) (fun rs wx hs hd => rfl)
                  | 33, _ => exact Reg.Ob.skip rfl rfl (fun _ => rfl) (fun rs wx hs hd => rfl)
                  | 34, _ => exact Reg.Ob.skip rfl rfl (fun _ => rfl) (fun rs wx hs hd => rfl)
                  | 35, _ => exact Reg.Ob.pure rfl rfl rfl (fun rs => .bool true) (fun _ => rfl) (fun rs wx r hs hd hl hk => by
                      have e69 : (r.tmps[69]?).getD undef = .bool true := hk 69 (by decide)
                      have e78 : (r.tmps[78]?).getD undef = undef := hk 78 (by decide)
                      go_simp)
                  | n + 36, h => exact absurd h (by simp <;> omega)
                case h0 =>
                  exact ⟨HX.out.1.drew, below_drewNs wr 1, HX.out.2.1, fun u hu => (by cases hu)⟩
                case hend =>
                  intro rs wx hs hd
                  obtain ⟨u22, hu22⟩ := hd 22 (by decide) (by decide)
                  obtain rfl := hs.num u22 hu22
                  simp only [List.foldl_cons, List.foldl_nil, Act.put, List.setIfInBounds_toArray, List.set_cons_zero, List.set_cons_succ]
                  rw [hu22]
                  simp only [Option.getD_some]
                  have HE := Lib.hid hs.below
                  clear hs hd hu22
                  go_wp2_with fail
                  go_ret2
                  exact ⟨HE.out, .inl ⟨HNN.out, rfl⟩⟩
            · have t5 : decide (0 < (k : Int)) = true := by simp; omega
              obtain ⟨kp, hkp⟩ : ∃ kp, k = kp + 1 := ⟨k - 1, by omega⟩
              have hpl : kp < ns.length := by have := HTX.out.2.2.2; omega
              obtain ⟨p, hp⟩ : ∃ p, ns[kp]? = some p := ⟨_, List.getElem?_eq_getElem hpl⟩
              have hw1 : IntKind.i64.wrap ((k : Int) - 1) = (kp : Int) := by rw [IntWalk.i64_in _ (by have := HK.out.1; have := HZ.out.2.1; omega)]; omega
              have t7 : (0 : Int) ≤ (kp : Int) := by omega
              have t8 : (kp : Int) < (ns.length : Int) := by omega
              have yp : w.cell? ⟨bN, oN + kp, none⟩ = some (.string p) := by
                obtain ⟨b', o', e, _, _, y⟩ := HN.out.at hpl
                cases e
                rw [List.getElem?_eq_getElem hpl] at hp
                rw [y, Option.some.inj hp]
              have hpv : prevN ns k = some p := by unfold prevN; rw [if_neg hk0, hkp]; exact hp
              obtain ⟨lt, hlt0⟩ : ∃ b, Op.bytesLess p.toList n.toList = b := ⟨_, rfl⟩
              have hnu : notUp (prevN ns k) n = !lt := by rw [hpv]; unfold notUp; simp only; rw [show Srt.ltS p n = lt from hlt0]
              have HU := Lib.hid hnu
              have HK0 : Hid (0 < k) := Lib.hid (by omega)
              clear hnu hpv hp hkp hpl hk0
              cases lt with
              | false =>
                have HNN : Hid (RES = none) := Lib.hid (HNONE.out (.inl HU.out))
                go_wp2_with fail
                clear y0 y1 y2 y3 y4 yN
                refine Reg.wp_region_puts (A := [[], [0], [1, 0], [2, 1, 0], [3, 2, 1, 0], [2, 1, 0], [5, 2, 1, 0], [4, 3, 2, 1, 0, 6, 5], [7, 4, 3, 2, 1, 0, 6, 5], [2, 1, 0], [9, 2, 1, 0], [2, 1, 0], [10, 9, 2, 1, 0, 11], [12, 10, 9, 2, 1, 0, 11], [8, 7, 4, 3, 2, 1, 0, 6, 5, 13, 12, 10, 9, 11], [2, 1, 0, 14, 8, 7, 4, 3, 6, 5, 13, 12, 10, 9, 11], [15, 2, 1, 0, 14, 8, 7, 4, 3, 6, 5, 13, 12, 10, 9, 11], [16, 15, 2, 1, 0, 14, 8, 7, 4, 3, 6, 5, 13, 12, 10, 9, 11], [17, 16, 15, 2, 1, 0, 14, 8, 7, 4, 3, 6, 5, 13, 12, 10, 9, 11], [16, 15, 2, 1, 0, 14, 8, 7, 4, 3, 6, 5, 13, 12, 10, 9, 11], [18, 17, 16, 15, 2, 1, 0, 14, 8, 7, 4, 3, 6, 5, 13, 12, 10, 9, 11, 19], [20, 18, 17, 16, 15, 2, 1, 0, 14, 8, 7, 4, 3, 6, 5, 13, 12, 10, 9, 11, 19], [21, 20, 18, 17, 16, 15, 2, 1, 0, 14, 8, 7, 4, 3, 6, 5, 13, 12, 10, 9, 11, 19], [22, 21, 20, 18, 17, 16, 15, 2, 1, 0, 14, 8, 7, 4, 3, 6, 5, 13, 12, 10, 9, 11, 19], [16, 15, 2, 1, 0, 14, 8, 7, 4, 3, 6, 5, 13, 12, 10, 9, 11, 23, 22, 21, 20, 18, 17, 19], [24, 16, 15, 2, 1, 0, 14, 8, 7, 4, 3, 6, 5, 13, 12, 10, 9, 11, 23, 22, 21, 20, 18, 17, 19], [25, 24, 16, 15, 2, 1, 0, 14, 8, 7, 4, 3, 6, 5, 13, 12, 10, 9, 11, 23, 22, 21, 20, 18, 17, 19], [26, 25, 24, 16, 15, 2, 1, 0, 14, 8, 7, 4, 3, 6, 5, 13, 12, 10, 9, 11, 23, 22, 21, 20, 18, 17, 19], [25, 24, 16, 15, 2, 1, 0, 14, 8, 7, 4, 3, 6, 5, 13, 12, 10, 9, 11, 23, 22, 21, 20, 18, 17, 19], [27, 26, 25, 24, 16, 15, 2, 1, 0, 14, 8, 7, 4, 3, 6, 5, 13, 12, 10, 9, 11, 23, 22, 21, 20, 18, 17, 19, 28], [29, 27, 26, 25, 24, 16, 15, 2, 1, 0, 14, 8, 7, 4, 3, 6, 5, 13, 12, 10, 9, 11, 23, 22, 21, 20, 18, 17, 19, 28], [30, 29, 27, 26, 25, 24, 16, 15, 2, 1, 0, 14, 8, 7, 4, 3, 6, 5, 13, 12, 10, 9, 11, 23, 22, 21, 20, 18, 17, 19, 28], [25, 24, 16, 15, 2, 1, 0, 14, 8, 7, 4, 3, 6, 5, 13, 12, 10, 9, 11, 23, 22, 21, 20, 18, 17, 19], [32, 25, 24, 16, 15, 2, 1, 0, 14, 8, 7, 4, 3, 6, 5, 13, 12, 10, 9, 11, 23, 22, 21, 20, 18, 17, 19], [31, 30, 29, 27, 26, 25, 24, 16, 15, 2, 1, 0, 14, 8, 7, 4, 3, 6, 5, 13, 12, 10, 9, 11, 23, 22, 21, 20, 18, 17, 19, 28, 33, 32], [25, 24, 16, 15, 2, 1, 0, 14, 8, 7, 4, 3, 6, 5, 13, 12, 10, 9, 11, 23, 22, 21, 20, 18, 17, 19, 34, 31, 30, 29, 27, 26, 28, 33, 32]]) (effs := []) (N := 141)
                  (val := fun i r => match i with | 0 => .int .i64 k | 1 => .bool true | 2 => .bool true | 3 => .pointer (some ⟨w.heap.size, 3, none⟩) | 4 => .slice (some ⟨bN, oN, none⟩) ns.length cN | 5 => .int .i64 k | 6 => .int .i64 (kp : Nat) | 7 => .pointer (some ⟨bN, oN + kp, none⟩) | 8 => .string p | 9 => .pointer (some ⟨w.heap.size, 3, none⟩) | 10 => .slice (some ⟨bN, oN, none⟩) ns.length cN | 11 => .int .i64 k | 12 => .pointer (some ⟨bN, oN + k, none⟩) | 13 => .string n | 14 => .bool true | 15 => .bool true | 16 => .bool true | 17 => undef | 18 => undef | 19 => undef | 20 => undef | 21 => undef | 22 => undef | 23 => undef | 24 => .bool true | 25 => .bool true | 26 => undef | 27 => undef | 28 => undef | 29 => undef | 30 => undef | 31 => undef | 32 => undef | 33 => undef | 34 => undef | 35 => .bool true | _ => undef)
                  (Stage := fun rs wx => RlSt w wr wx (.cells #[.int .i64 sl, .int .i64 sr, .string sd, .slice (some ⟨bN, oN, none⟩) ns.length cN, .slice (some ⟨bT, oT, none⟩) tss.length cT] 38) c rs)
                  (fun rs => [(some 44, .int .i64 k), (some 45, .bool true), (some 46, .bool true), (some 47, .pointer (some ⟨w.heap.size, 3, none⟩)), (some 48, .slice (some ⟨bN, oN, none⟩) ns.length cN), (some 49, .int .i64 k), (some 50, .int .i64 (kp : Nat)), (some 51, .pointer (some ⟨bN, oN + kp, none⟩)), (some 52, .string p), (some 53, .pointer (some ⟨w.heap.size, 3, none⟩)), (some 54, .slice (some ⟨bN, oN, none⟩) ns.length cN), (some 55, .int .i64 k), (some 56, .pointer (some ⟨bN, oN + k, none⟩)), (some 57, .string n), (some 58, .bool true), (some 59, .bool true), (some 60, .bool true), (some 61, undef), (some 62, undef), (some 63, undef), (some 64, undef), (some 65, undef), (some 66, undef), (some 67, undef), (some 68, .bool true), (some 69, .bool true), (some 70, undef), (some 71, undef), (some 72, undef), (some 73, undef), (some 74, undef), (some 75, undef), (some 76, undef), (some 77, undef), (some 78, undef), (some 79, .bool true)])
                  (by kernel_rfl) (by kernel_rfl) rfl (fun _ => rfl) ?h0 ?hob ?hend
                case hob =>
                  intro i hi
                  match i, hi with
                  | 0, _ => exact Reg.Ob.pure rfl rfl rfl (fun rs => .int .i64 k) (fun _ => rfl) (fun rs wx r hs hd hl hk => by
                      have e6 : (r.tmps[6]?).getD undef = .int .i64 k := hk 6 (by decide)
                      go_simp)
                  | 1, _ => exact Reg.Ob.pure rfl rfl rfl (fun rs => .bool true) (fun _ => rfl) (fun rs wx r hs hd hl hk => by
                      have e44 : (r.tmps[44]?).getD undef = .int .i64 k := hk 44 (by decide)
                      have t9 := HK0.out
                      go_simp)
                  | 2, _ => exact Reg.Ob.pure rfl rfl rfl (fun rs => .bool true) (fun _ => rfl) (fun rs wx r hs hd hl hk => by
                      have e45 : (r.tmps[45]?).getD undef = .bool true := hk 45 (by decide)
                      go_simp)
                  | 3, _ => exact Reg.Ob.guarded rfl rfl (fun rs => .pointer (some ⟨w.heap.size, 3, none⟩)) (fun _ => rfl) (fun rs wx hs hd => rfl) (fun rs wx r hs hd hl hk => by
                      have e1 : (r.tmps[1]?).getD undef = .pointer (some ⟨w.heap.size, 0, none⟩) := hk 1 (by decide)
                      go_simp)
                  | 4, _ => exact Reg.Ob.guarded rfl rfl (fun rs => .slice (some ⟨bN, oN, none⟩) ns.length cN) (fun _ => rfl) (fun rs wx hs hd => rfl) (fun rs wx r hs hd hl hk => by
                      have e47 : (r.tmps[47]?).getD undef = .pointer (some ⟨w.heap.size, 3, none⟩) := hk 47 (by decide)
                      have c1 : wx.cell? ⟨w.heap.size, 3, none⟩ = some (.slice (some ⟨bN, oN, none⟩) ns.length cN) := blk_cell hs.box 3
                      go_simp)
                  | 5, _ => exact Reg.Ob.guarded rfl rfl (fun rs => .int .i64 k) (fun _ => rfl) (fun rs wx hs hd => rfl) (fun rs wx r hs hd hl hk => by
                      have e6 : (r.tmps[6]?).getD undef = .int .i64 k := hk 6 (by decide)
                      go_simp)
                  | 6, _ => exact Reg.Ob.guarded rfl rfl (fun rs => .int .i64 (kp : Nat)) (fun _ => rfl) (fun rs wx hs hd => rfl) (fun rs wx r hs hd hl hk => by
                      have e49 : (r.tmps[49]?).getD undef = .int .i64 k := hk 49 (by decide)
                      go_simp)
                  | 7, _ => exact Reg.Ob.guarded rfl rfl (fun rs => .pointer (some ⟨bN, oN + kp, none⟩)) (fun _ => rfl) (fun rs wx hs hd => rfl) (fun rs wx r hs hd hl hk => by
                      have e48 : (r.tmps[48]?).getD undef = .slice (some ⟨bN, oN, none⟩) ns.length cN := hk 48 (by decide)
                      have e50 : (r.tmps[50]?).getD undef = .int .i64 (kp : Nat) := hk 50 (by decide)
                      go_simp)
                  | 8, _ => exact Reg.Ob.guarded rfl rfl (fun rs => .string p) (fun _ => rfl) (fun rs wx hs hd => rfl) (fun rs wx r hs hd hl hk => by
                      have e51 : (r.tmps[51]?).getD undef = .pointer (some ⟨bN, oN + kp, none⟩) := hk 51 (by decide)
                      have c1 : wx.cell? ⟨bN, oN + kp, none⟩ = some (.string p) := (hs.below.cell (p := ⟨bN, oN + kp, none⟩) hbN).trans yp
                      go_simp)
                  | 9, _ => exact Reg.Ob.guarded rfl rfl (fun rs => .pointer (some ⟨w.heap.size, 3, none⟩)) (fun _ => rfl) (fun rs wx hs hd => rfl) (fun rs wx r hs hd hl hk => by
                      have e1 : (r.tmps[1]?).getD undef = .pointer (some ⟨w.heap.size, 0, none⟩) := hk 1 (by decide)
                      go_simp)
                  | 10, _ => exact Reg.Ob.guarded rfl rfl (fun rs => .slice (some ⟨bN, oN, none⟩) ns.length cN) (fun _ => rfl) (fun rs wx hs hd => rfl) (fun rs wx r hs hd hl hk => by
                      have e53 : (r.tmps[53]?).getD undef = .pointer (some ⟨w.heap.size, 3, none⟩) := hk 53 (by decide)
                      have c1 : wx.cell? ⟨w.heap.size, 3, none⟩ = some (.slice (some ⟨bN, oN, none⟩) ns.length cN) := blk_cell hs.box 3
                      go_simp)
                  | 11, _ => exact Reg.Ob.guarded rfl rfl (fun rs => .int .i64 k) (fun _ => rfl) (fun rs wx hs hd => rfl) (fun rs wx r hs hd hl hk => by
                      have e6 : (r.tmps[6]?).getD undef = .int .i64 k := hk 6 (by decide)
                      go_simp)
                  | 12, _ => exact Reg.Ob.guarded rfl rfl (fun rs => .pointer (some ⟨bN, oN + k, none⟩)) (fun _ => rfl) (fun rs wx hs hd => rfl) (fun rs wx r hs hd hl hk => by
                      have e54 : (r.tmps[54]?).getD undef = .slice (some ⟨bN, oN, none⟩) ns.length cN := hk 54 (by decide)
                      have e55 : (r.tmps[55]?).getD undef = .int .i64 k := hk 55 (by decide)
                      go_simp)
                  | 13, _ => exact Reg.Ob.guarded rfl rfl (fun rs => .string n) (fun _ => rfl) (fun rs wx hs hd => rfl) (fun rs wx r hs hd hl hk => by
                      have e56 : (r.tmps[56]?).getD undef = .pointer (some ⟨bN, oN + k, none⟩) := hk 56 (by decide)
                      have c1 : wx.cell? ⟨bN, oN + k, none⟩ = some (.string n) := (hs.below.cell (p := ⟨bN, oN + k, none⟩) hbN).trans yN0
                      go_simp)
                  | 14, _ => exact Reg.Ob.guarded rfl rfl (fun rs => .bool true) (fun _ => rfl) (fun rs wx hs hd => rfl) (fun rs wx r hs hd hl hk => by
                      have e52 : (r.tmps[52]?).getD undef = .string p := hk 52 (by decide)
                      have e57 : (r.tmps[57]?).getD undef = .string n := hk 57 (by decide)
                      go_simp)
                  | 15, _ => exact Reg.Ob.pure rfl rfl rfl (fun rs => .bool true) (fun _ => rfl) (fun rs wx r hs hd hl hk => by
                      have e46 : (r.tmps[46]?).getD undef = .bool true := hk 46 (by decide)
                      have e58 : (r.tmps[58]?).getD undef = .bool true := hk 58 (by decide)
                      go_simp)
                  | 16, _ => exact Reg.Ob.pure rfl rfl rfl (fun rs => .bool true) (fun _ => rfl) (fun rs wx r hs hd hl hk => by
                      have e59 : (r.tmps[59]?).getD undef = .bool true := hk 59 (by decide)
                      go_simp)
                  | 17, _ => exact Reg.Ob.skip rfl rfl (fun _ => rfl) (fun rs wx hs hd => rfl)
                  | 18, _ => exact Reg.Ob.skip rfl rfl (fun _ => rfl) (fun rs wx hs hd => rfl)
                  | 19, _ => exact Reg.Ob.skip rfl rfl (fun _ => rfl) (fun rs wx hs hd => rfl)
                  | 20, _ => exact Reg.Ob.skip rfl rfl (fun _ => rfl) (fun rs wx hs hd => rfl)
                  | 21, _ => exact Reg.Ob.skip rfl rfl (fun _ => rfl) (fun rs wx hs hd => rfl)
                  | 22, _ => exact Reg.Ob.skip rfl rfl (fun _ => rfl) (fun rs wx hs hd => rfl)
                  | 23, _ => exact Reg.Ob.skip rfl rfl (fun _ => rfl) (fun rs wx hs hd => rfl)
                  | 24, _ => exact Reg.Ob.pure rfl rfl rfl (fun rs => .bool true) (fun _ => rfl) (fun rs wx r hs hd hl hk => by
                      have e60 : (r.tmps[60]?).getD undef = .bool true := hk 60 (by decide)
                      have e67 : (r.tmps[67]?).getD undef = undef := hk 67 (by decide)
                      go_simp)
                  | 25, _ => exact Reg.Ob.pure rfl rfl rfl (fun rs => .bool true) (fun _ => rfl) (fun rs wx r hs hd hl hk => by
                      have e68 : (r.tmps[68]?).getD undef = .bool true := hk 68 (by decide)
                      go_simp)
                  | 26, _ => exact Reg.Ob.skip rfl rfl (fun _ => rfl) (fun rs wx hs hd => rfl)
                  | 27, _ => exact Reg.Ob.skip rfl rfl (fun _ => rfl) (fun rs wx hs hd => rfl)
                  | 28, _ => exact Reg.Ob.skip rfl rfl (fun _ => rfl) (fun rs wx hs hd => rfl)
                  | 29, _ => exact Reg.Ob.skip rfl rfl (fun _ => rfl) (fun rs wx hs hd => rfl)
                  | 30, _ => exact Reg.Ob.skip rfl rfl (fun _ => rfl) (fun rs wx hs hd => rfl)
                  | 31, _ => exact Reg.Ob.skip rfl rfl (fun _ => rfl) (fun rs wx hs hd => rfl)
                  | 32, _ => exact Reg.Ob.skip rfl rfl (fun _ => rfl) (fun rs wx hs hd => rfl)
                  | 33, _ => exact Reg.Ob.skip rfl rfl (fun _ => rfl) (fun rs wx hs hd => rfl)
                  | 34, _ => exact Reg.Ob.skip rfl rfl (fun _ => rfl) (fun rs wx hs hd => rfl)
                  | 35, _ => exact Reg.Ob.pure rfl rfl rfl (fun rs => .bool true) (fun _ => rfl) (fun rs wx r hs hd hl hk => by
                      have e69 : (r.tmps[69]?).getD undef = .bool true := hk 69 (by decide)
                      have e78 : (r.tmps[78]?).getD undef = undef := hk 78 (by decide)
                      go_simp)
                  | n + 36, h => exact absurd h (by simp <;> omega)
                case h0 =>
                  exact ⟨HX.out.1.drew, below_drewNs wr 1, HX.out.2.1, fun u hu => (by cases hu)⟩
                case hend =>
                  intro rs wx hs hd
                  simp only [List.foldl_cons, List.foldl_nil, Act.put, List.setIfInBounds_toArray, List.set_cons_zero, List.set_cons_succ]
                  have HE := Lib.hid hs.below
                  clear hs hd
                  go_wp2_with fail
                  go_ret2
                  exact ⟨HE.out, .inl ⟨HNN.out, rfl⟩⟩
              | true =>
                by_cases hc0 : c = 0
                · subst hc0
                  go_wp2_with fail
                  clear y0 y1 y2 y3 y4 yN
                  refine Reg.wp_region_puts (A := [[], [0], [1, 0], [2, 1, 0], [3, 2, 1, 0], [2, 1, 0], [5, 2, 1, 0], [4, 3, 2, 1, 0, 6, 5], [7, 4, 3, 2, 1, 0, 6, 5], [2, 1, 0], [9, 2, 1, 0], [2, 1, 0], [10, 9, 2, 1, 0, 11], [12, 10, 9, 2, 1, 0, 11], [8, 7, 4, 3, 2, 1, 0, 6, 5, 13, 12, 10, 9, 11], [2, 1, 0, 14, 8, 7, 4, 3, 6, 5, 13, 12, 10, 9, 11], [15, 2, 1, 0, 14, 8, 7, 4, 3, 6, 5, 13, 12, 10, 9, 11], [16, 15, 2, 1, 0, 14, 8, 7, 4, 3, 6, 5, 13, 12, 10, 9, 11], [17, 16, 15, 2, 1, 0, 14, 8, 7, 4, 3, 6, 5, 13, 12, 10, 9, 11], [16, 15, 2, 1, 0, 14, 8, 7, 4, 3, 6, 5, 13, 12, 10, 9, 11], [18, 17, 16, 15, 2, 1, 0, 14, 8, 7, 4, 3, 6, 5, 13, 12, 10, 9, 11, 19], [20, 18, 17, 16, 15, 2, 1, 0, 14, 8, 7, 4, 3, 6, 5, 13, 12, 10, 9, 11, 19], [21, 20, 18, 17, 16, 15, 2, 1, 0, 14, 8, 7, 4, 3, 6, 5, 13, 12, 10, 9, 11, 19], [22, 21, 20, 18, 17, 16, 15, 2, 1, 0, 14, 8, 7, 4, 3, 6, 5, 13, 12, 10, 9, 11, 19], [16, 15, 2, 1, 0, 14, 8, 7, 4, 3, 6, 5, 13, 12, 10, 9, 11, 23, 22, 21, 20, 18, 17, 19], [24, 16, 15, 2, 1, 0, 14, 8, 7, 4, 3, 6, 5, 13, 12, 10, 9, 11, 23, 22, 21, 20, 18, 17, 19], [25, 24, 16, 15, 2, 1, 0, 14, 8, 7, 4, 3, 6, 5, 13, 12, 10, 9, 11, 23, 22, 21, 20, 18, 17, 19], [26, 25, 24, 16, 15, 2, 1, 0, 14, 8, 7, 4, 3, 6, 5, 13, 12, 10, 9, 11, 23, 22, 21, 20, 18, 17, 19], [25, 24, 16, 15, 2, 1, 0, 14, 8, 7, 4, 3, 6, 5, 13, 12, 10, 9, 11, 23, 22, 21, 20, 18, 17, 19], [27, 26, 25, 24, 16, 15, 2, 1, 0, 14, 8, 7, 4, 3, 6, 5, 13, 12, 10, 9, 11, 23, 22, 21, 20, 18, 17, 19, 28], [29, 27, 26, 25, 24, 16, 15, 2, 1, 0, 14, 8, 7, 4, 3, 6, 5, 13, 12, 10, 9, 11, 23, 22, 21, 20, 18, 17, 19, 28], [30, 29, 27, 26, 25, 24, 16, 15, 2, 1, 0, 14, 8, 7, 4, 3, 6, 5, 13, 12, 10, 9, 11, 23, 22, 21, 20, 18, 17, 19, 28], [25, 24, 16, 15, 2, 1, 0, 14, 8, 7, 4, 3, 6, 5, 13, 12, 10, 9, 11, 23, 22, 21, 20, 18, 17, 19], [32, 25, 24, 16, 15, 2, 1, 0, 14, 8, 7, 4, 3, 6, 5, 13, 12, 10, 9, 11, 23, 22, 21, 20, 18, 17, 19], [31, 30, 29, 27, 26, 25, 24, 16, 15, 2, 1, 0, 14, 8, 7, 4, 3, 6, 5, 13, 12, 10, 9, 11, 23, 22, 21, 20, 18, 17, 19, 28, 33, 32], [25, 24, 16, 15, 2, 1, 0, 14, 8, 7, 4, 3, 6, 5, 13, 12, 10, 9, 11, 23, 22, 21, 20, 18, 17, 19, 34, 31, 30, 29, 27, 26, 28, 33, 32]]) (effs := [22]) (N := 141)
                    (val := fun i r => match i with | 0 => .int .i64 k | 1 => .bool true | 2 => .bool true | 3 => .pointer (some ⟨w.heap.size, 3, none⟩) | 4 => .slice (some ⟨bN, oN, none⟩) ns.length cN | 5 => .int .i64 k | 6 => .int .i64 (kp : Nat) | 7 => .pointer (some ⟨bN, oN + kp, none⟩) | 8 => .string p | 9 => .pointer (some ⟨w.heap.size, 3, none⟩) | 10 => .slice (some ⟨bN, oN, none⟩) ns.length cN | 11 => .int .i64 k | 12 => .pointer (some ⟨bN, oN + k, none⟩) | 13 => .string n | 14 => .bool false | 15 => .bool false | 16 => .bool false | 17 => .pointer (some ⟨w.heap.size, 3, none⟩) | 18 => .slice (some ⟨bN, oN, none⟩) ns.length cN | 19 => .int .i64 k | 20 => .pointer (some ⟨bN, oN + k, none⟩) | 21 => .string n | 23 => .bool false | 24 => .bool false | 25 => .bool false | 26 => .pointer (some ⟨w.heap.size, 4, none⟩) | 27 => .slice (some ⟨bT, oT, none⟩) tss.length cT | 28 => .int .i64 k | 29 => .pointer (some ⟨bT, oT + k, none⟩) | 30 => .slice AX tx.length cX | 31 => .int .i64 tx.length | 32 => .pointer (some ⟨w.heap.size, 1, none⟩) | 33 => .int .i64 sr | 34 => .bool ov | 35 => .bool ov | _ => undef)
                    (Stage := fun rs wx => RlSt w wr wx (.cells #[.int .i64 sl, .int .i64 sr, .string sd, .slice (some ⟨bN, oN, none⟩) ns.length cN, .slice (some ⟨bT, oT, none⟩) tss.length cT] 38) 0 rs)
                    (fun rs => [(some 44, .int .i64 k), (some 45, .bool true), (some 46, .bool true), (some 47, .pointer (some ⟨w.heap.size, 3, none⟩)), (some 48, .slice (some ⟨bN, oN, none⟩) ns.length cN), (some 49, .int .i64 k), (some 50, .int .i64 (kp : Nat)), (some 51, .pointer (some ⟨bN, oN + kp, none⟩)), (some 52, .string p), (some 53, .pointer (some ⟨w.heap.size, 3, none⟩)), (some 54, .slice (some ⟨bN, oN, none⟩) ns.length cN), (some 55, .int .i64 k), (some 56, .pointer (some ⟨bN, oN + k, none⟩)), (some 57, .string n), (some 58, .bool false), (some 59, .bool false), (some 60, .bool false), (some 61, .pointer (some ⟨w.heap.size, 3, none⟩)), (some 62, .slice (some ⟨bN, oN, none⟩) ns.length cN), (some 63, .int .i64 k), (some 64, .pointer (some ⟨bN, oN + k, none⟩)), (some 65, .string n), (some 66, (rs 22).getD undef), (some 67, .bool false), (some 68, .bool false), (some 69, .bool false), (some 70, .pointer (some ⟨w.heap.size, 4, none⟩)), (some 71, .slice (some ⟨bT, oT, none⟩) tss.length cT), (some 72, .int .i64 k), (some 73, .pointer (some ⟨bT, oT + k, none⟩)), (some 74, .slice AX tx.length cX), (some 75, .int .i64 tx.length), (some 76, .pointer (some ⟨w.heap.size, 1, none⟩)), (some 77, .int .i64 sr), (some 78, .bool ov), (some 79, .bool ov)])
                    (by kernel_rfl) (by kernel_rfl) rfl (fun _ => rfl) ?h0 ?hob ?hend
                  case hob =>
                    intro i hi
                    match i, hi with
                    | 0, _ => exact Reg.Ob.pure rfl rfl rfl (fun rs => .int .i64 k) (fun _ => rfl) (fun rs wx r hs hd hl hk => by
                        have e6 : (r.tmps[6]?).getD undef = .int .i64 k := hk 6 (by decide)
                        go_simp)
                    | 1, _ => exact Reg.Ob.pure rfl rfl rfl (fun rs => .bool true) (fun _ => rfl) (fun rs wx r hs hd hl hk => by
                        have e44 : (r.tmps[44]?).getD undef = .int .i64 k := hk 44 (by decide)
                        have t9 := HK0.out
                        go_simp)
                    | 2, _ => exact Reg.Ob.pure rfl rfl rfl (fun rs => .bool true) (fun _ => rfl) (fun rs wx r hs hd hl hk => by
                        have e45 : (r.tmps[45]?).getD undef = .bool true := hk 45 (by decide)
                        go_simp)
                    | 3, _ => exact Reg.Ob.guarded rfl rfl (fun rs => .pointer (some ⟨w.heap.size, 3, none⟩)) (fun _ => rfl) (fun rs wx hs hd => rfl) (fun rs wx r hs hd hl hk => by
                        have e1 : (r.tmps[1]?).getD undef = .pointer (some ⟨w.heap.size, 0, none⟩) := hk 1 (by decide)
                        go_simp)
                    | 4, _ => exact Reg.Ob.guarded rfl rfl (fun rs => .slice (some ⟨bN, oN, none⟩) ns.length cN) (fun _ => rfl) (fun rs wx hs hd => rfl) (fun rs wx r hs hd hl hk => by
                        have e47 : (r.tmps[47]?).getD undef = .pointer (some ⟨w.heap.size, 3, none⟩) := hk 47 (by decide)
                        have c1 : wx.cell? ⟨w.heap.size, 3, none⟩ = some (.slice (some ⟨bN, oN, none⟩) ns.length cN) := blk_cell hs.box 3
                        go_simp)
                    | 5, _ => exact Reg.Ob.guarded rfl rfl (fun rs => .int .i64 k) (fun _ => rfl) (fun rs wx hs hd => rfl) (fun rs wx r hs hd hl hk => by
                        have e6 : (r.tmps[6]?).getD undef = .int .i64 k := hk 6 (by decide)
                        go_simp)
                    | 6, _ => exact Reg.Ob.guarded rfl rfl (fun rs => .int .i64 (kp : Nat)) (fun _ => rfl) (fun rs wx hs hd => rfl) (fun rs wx r hs hd hl hk => by
                        have e49 : (r.tmps[49]?).getD undef = .int .i64 k := hk 49 (by decide)
                        go_simp)
                    | 7, _ => exact Reg.Ob.guarded rfl rfl (fun rs => .pointer (some ⟨bN, oN + kp, none⟩)) (fun _ => rfl) (fun rs wx hs hd => rfl) (fun rs wx r hs hd hl hk => by
                        have e48 : (r.tmps[48]?).getD undef = .slice (some ⟨bN, oN, none⟩) ns.length cN := hk 48 (by decide)
                        have e50 : (r.tmps[50]?).getD undef = .int .i64 (kp : Nat) := hk 50 (by decide)
                        go_simp)
                    | 8, _ => exact Reg.Ob.guarded rfl rfl (fun rs => .string p) (fun _ => rfl) (fun rs wx hs hd => rfl) (fun rs wx r hs hd hl hk => by
                        have e51 : (r.tmps[51]?).getD undef = .pointer (some ⟨bN, oN + kp, none⟩) := hk 51 (by decide)
                        have c1 : wx.cell? ⟨bN, oN + kp, none⟩ = some (.string p) := (hs.below.cell (p := ⟨bN, oN + kp, none⟩) hbN).trans yp
                        go_simp)
                    | 9, _ => exact Reg.Ob.guarded rfl rfl (fun rs => .pointer (some ⟨w.heap.size, 3, none⟩)) (fun _ => rfl) (fun rs wx hs hd => rfl) (fun rs wx r hs hd hl hk => by
                        have e1 : (r.tmps[1]?).getD undef = .pointer (some ⟨w.heap.size, 0, none⟩) := hk 1 (by decide)
                        go_simp)
                    | 10, _ => exact Reg.Ob.guarded rfl rfl (fun rs => .slice (some ⟨bN, oN, none⟩) ns.length cN) (fun _ => rfl) (fun rs wx hs hd => rfl) (fun rs wx r hs hd hl hk => by
                        have e53 : (r.tmps[53]?).getD undef = .pointer (some ⟨w.heap.size, 3, none⟩) := hk 53 (by decide)
                        have c1 : wx.cell? ⟨w.heap.size, 3, none⟩ = some (.slice (some ⟨bN, oN, none⟩) ns.length cN) := blk_cell hs.box 3
                        go_simp)
                    | 11, _ => exact Reg.Ob.guarded rfl rfl (fun rs => .int .i64 k) (fun _ => rfl) (fun rs wx hs hd => rfl) (fun rs wx r hs hd hl hk => by
                        have e6 : (r.tmps[6]?).getD undef = .int .i64 k := hk 6 (by decide)
                        go_simp)
                    | 12, _ => exact Reg.Ob.guarded rfl rfl (fun rs => .pointer (some ⟨bN, oN + k, none⟩)) (fun _ => rfl) (fun rs wx hs hd => rfl) (fun rs wx r hs hd hl hk => by
                        have e54 : (r.tmps[54]?).getD undef = .slice (some ⟨bN, oN, none⟩) ns.length cN := hk 54 (by decide)
                        have e55 : (r.tmps[55]?).getD undef = .int .i64 k := hk 55 (by decide)
                        go_simp)
                    | 13, _ => exact Reg.Ob.guarded rfl rfl (fun rs => .string n) (fun _ => rfl) (fun rs wx hs hd => rfl) (fun rs wx r hs hd hl hk => by
                        have e56 : (r.tmps[56]?).getD undef = .pointer (some ⟨bN, oN + k, none⟩) := hk 56 (by decide)
                        have c1 : wx.cell? ⟨bN, oN + k, none⟩ = some (.string n) := (hs.below.cell (p := ⟨bN, oN + k, none⟩) hbN).trans yN0
                        go_simp)
                    | 14, _ => exact Reg.Ob.guarded rfl rfl (fun rs => .bool false) (fun _ => rfl) (fun rs wx hs hd => rfl) (fun rs wx r hs hd hl hk => by
                        have e52 : (r.tmps[52]?).getD undef = .string p := hk 52 (by decide)
                        have e57 : (r.tmps[57]?).getD undef = .string n := hk 57 (by decide)
                        go_simp)
                    | 15, _ => exact Reg.Ob.pure rfl rfl rfl (fun rs => .bool false) (fun _ => rfl) (fun rs wx r hs hd hl hk => by
                        have e46 : (r.tmps[46]?).getD undef = .bool true := hk 46 (by decide)
                        have e58 : (r.tmps[58]?).getD undef = .bool false := hk 58 (by decide)
                        go_simp)
                    | 16, _ => exact Reg.Ob.pure rfl rfl rfl (fun rs => .bool false) (fun _ => rfl) (fun rs wx r hs hd hl hk => by
                        have e59 : (r.tmps[59]?).getD undef = .bool false := hk 59 (by decide)
                        go_simp)
                    | 17, _ => exact Reg.Ob.guarded rfl rfl (fun rs => .pointer (some ⟨w.heap.size, 3, none⟩)) (fun _ => rfl) (fun rs wx hs hd => rfl) (fun rs wx r hs hd hl hk => by
                        have e1 : (r.tmps[1]?).getD undef = .pointer (some ⟨w.heap.size, 0, none⟩) := hk 1 (by decide)
                        go_simp)
                    | 18, _ => exact Reg.Ob.guarded rfl rfl (fun rs => .slice (some ⟨bN, oN, none⟩) ns.length cN) (fun _ => rfl) (fun rs wx hs hd => rfl) (fun rs wx r hs hd hl hk => by
                        have e61 : (r.tmps[61]?).getD undef = .pointer (some ⟨w.heap.size, 3, none⟩) := hk 61 (by decide)
                        have c1 : wx.cell? ⟨w.heap.size, 3, none⟩ = some (.slice (some ⟨bN, oN, none⟩) ns.length cN) := blk_cell hs.box 3
                        go_simp)
                    | 19, _ => exact Reg.Ob.guarded rfl rfl (fun rs => .int .i64 k) (fun _ => rfl) (fun rs wx hs hd => rfl) (fun rs wx r hs hd hl hk => by
                        have e6 : (r.tmps[6]?).getD undef = .int .i64 k := hk 6 (by decide)
                        go_simp)
                    | 20, _ => exact Reg.Ob.guarded rfl rfl (fun rs => .pointer (some ⟨bN, oN + k, none⟩)) (fun _ => rfl) (fun rs wx hs hd => rfl) (fun rs wx r hs hd hl hk => by
                        have e62 : (r.tmps[62]?).getD undef = .slice (some ⟨bN, oN, none⟩) ns.length cN := hk 62 (by decide)
                        have e63 : (r.tmps[63]?).getD undef = .int .i64 k := hk 63 (by decide)
                        go_simp)
                    | 21, _ => exact Reg.Ob.guarded rfl rfl (fun rs => .string n) (fun _ => rfl) (fun rs wx hs hd => rfl) (fun rs wx r hs hd hl hk => by
                        have e64 : (r.tmps[64]?).getD undef = .pointer (some ⟨bN, oN + k, none⟩) := hk 64 (by decide)
                        have c1 : wx.cell? ⟨bN, oN + k, none⟩ = some (.string n) := (hs.below.cell (p := ⟨bN, oN + k, none⟩) hbN).trans yN0
                        go_simp)
                    | 22, _ =>
                      refine Reg.Ob.geff rfl rfl (fun rs wx hs hd => rfl) ?_
                      intro rs wx r hs hd hn hl hk K hK
                      have e65 : (r.tmps[65]?).getD undef = .string n := hk 65 (by decide)
                      have HS := Lib.hid hs
                      have HN' := Lib.hid hn
                      have HL := Lib.hid hl
                      have HKK := Lib.hid hK
                      clear hs hn hd hl hk hK
                      go_simp
                      refine (HWD.out.1 wx).mono ?_
                      rintro e w5 ⟨rfl, hb5⟩
                      refine HKK.out _ _ ⟨HS.out.below.trans (hb5.mono HS.out.below.size), HS.out.old.trans (hb5.mono HS.out.old.size), blk_below HS.out.box hb5 (blk_lt HS.out.box), fun u hu => ?_⟩
                      have h2 : some (Value.int .i64 0) = some u := hu
                      cases h2
                      rfl
                    | 23, _ => exact Reg.Ob.guarded rfl rfl (fun rs => .bool false) (fun _ => rfl) (fun rs wx hs hd => rfl) (fun rs wx r hs hd hl hk => by
                        have e66 : (r.tmps[66]?).getD undef = ((rs 22).getD undef) := hk 66 (by decide)
                        obtain ⟨u22, hu22⟩ := hd 22 (by decide) (by decide)
                        obtain rfl := hs.num u22 hu22
                        rw [hu22] at e66
                        simp only [Option.getD_some] at e66
                        clear hu22
                        go_simp)
                    | 24, _ => exact Reg.Ob.pure rfl rfl rfl (fun rs => .bool false) (fun _ => rfl) (fun rs wx r hs hd hl hk => by
                        have e60 : (r.tmps[60]?).getD undef = .bool false := hk 60 (by decide)
                        have e67 : (r.tmps[67]?).getD undef = .bool false := hk 67 (by decide)
                        go_simp)
                    | 25, _ => exact Reg.Ob.pure rfl rfl rfl (fun rs => .bool false) (fun _ => rfl) (fun rs wx r hs hd hl hk => by
                        have e68 : (r.tmps[68]?).getD undef = .bool false := hk 68 (by decide)
                        go_simp)
                    | 26, _ => exact Reg.Ob.guarded rfl rfl (fun rs => .pointer (some ⟨w.heap.size, 4, none⟩)) (fun _ => rfl) (fun rs wx hs hd => rfl) (fun rs wx r hs hd hl hk => by
                        have e1 : (r.tmps[1]?).getD undef = .pointer (some ⟨w.heap.size, 0, none⟩) := hk 1 (by decide)
                        go_simp)
                    | 27, _ => exact Reg.Ob.guarded rfl rfl (fun rs => .slice (some ⟨bT, oT, none⟩) tss.length cT) (fun _ => rfl) (fun rs wx hs hd => rfl) (fun rs wx r hs hd hl hk => by
                        have e70 : (r.tmps[70]?).getD undef = .pointer (some ⟨w.heap.size, 4, none⟩) := hk 70 (by decide)
                        have c1 : wx.cell? ⟨w.heap.size, 4, none⟩ = some (.slice (some ⟨bT, oT, none⟩) tss.length cT) := blk_cell hs.box 4
                        go_simp)
                    | 28, _ => exact Reg.Ob.guarded rfl rfl (fun rs => .int .i64 k) (fun _ => rfl) (fun rs wx hs hd => rfl) (fun rs wx r hs hd hl hk => by
                        have e6 : (r.tmps[6]?).getD undef = .int .i64 k := hk 6 (by decide)
                        go_simp)
                    | 29, _ => exact Reg.Ob.guarded rfl rfl (fun rs => .pointer (some ⟨bT, oT + k, none⟩)) (fun _ => rfl) (fun rs wx hs hd => rfl) (fun rs wx r hs hd hl hk => by
                        have e71 : (r.tmps[71]?).getD undef = .slice (some ⟨bT, oT, none⟩) tss.length cT := hk 71 (by decide)
                        have e72 : (r.tmps[72]?).getD undef = .int .i64 k := hk 72 (by decide)
                        go_simp)
                    | 30, _ => exact Reg.Ob.guarded rfl rfl (fun rs => .slice AX tx.length cX) (fun _ => rfl) (fun rs wx hs hd => rfl) (fun rs wx r hs hd hl hk => by
                        have e73 : (r.tmps[73]?).getD undef = .pointer (some ⟨bT, oT + k, none⟩) := hk 73 (by decide)
                        have c1 : wx.cell? ⟨bT, oT + k, none⟩ = some (.slice AX tx.length cX) := (hs.below.cell (p := ⟨bT, oT + k, none⟩) hbT).trans yT
                        go_simp)
                    | 31, _ => exact Reg.Ob.guarded rfl rfl (fun rs => .int .i64 tx.length) (fun _ => rfl) (fun rs wx hs hd => rfl) (fun rs wx r hs hd hl hk => by
                        have e74 : (r.tmps[74]?).getD undef = .slice AX tx.length cX := hk 74 (by decide)
                        go_simp)
                    | 32, _ => exact Reg.Ob.guarded rfl rfl (fun rs => .pointer (some ⟨w.heap.size, 1, none⟩)) (fun _ => rfl) (fun rs wx hs hd => rfl) (fun rs wx r hs hd hl hk => by
                        have e1 : (r.tmps[1]?).getD undef = .pointer (some ⟨w.heap.size, 0, none⟩) := hk 1 (by decide)
                        go_simp)
                    | 33, _ => exact Reg.Ob.guarded rfl rfl (fun rs => .int .i64 sr) (fun _ => rfl) (fun rs wx hs hd => rfl) (fun rs wx r hs hd hl hk => by
                        have e76 : (r.tmps[76]?).getD undef = .pointer (some ⟨w.heap.size, 1, none⟩) := hk 76 (by decide)
                        have c1 : wx.cell? ⟨w.heap.size, 1, none⟩ = some (.int .i64 sr) := blk_cell hs.box 1
                        go_simp)
                    | 34, _ => exact Reg.Ob.guarded rfl rfl (fun rs => .bool ov) (fun _ => rfl) (fun rs wx hs hd => rfl) (fun rs wx r hs hd hl hk => by
                        have e75 : (r.tmps[75]?).getD undef = .int .i64 tx.length := hk 75 (by decide)
                        have e77 : (r.tmps[77]?).getD undef = .int .i64 sr := hk 77 (by decide)
                        have t9 := HOV.out
                        go_simp)
                    | 35, _ => exact Reg.Ob.pure rfl rfl rfl (fun rs => .bool ov) (fun _ => rfl) (fun rs wx r hs hd hl hk => by
                        have e69 : (r.tmps[69]?).getD undef = .bool false := hk 69 (by decide)
                        have e78 : (r.tmps[78]?).getD undef = .bool ov := hk 78 (by decide)
                        go_simp)
                    | n + 36, h => exact absurd h (by simp <;> omega)
                  case h0 =>
                    exact ⟨HX.out.1.drew, below_drewNs wr 1, HX.out.2.1, fun u hu => (by cases hu)⟩
                  case hend =>
                    intro rs wx hs hd
                    obtain ⟨u22, hu22⟩ := hd 22 (by decide) (by decide)
                    obtain rfl := hs.num u22 hu22
                    simp only [List.foldl_cons, List.foldl_nil, Act.put, List.setIfInBounds_toArray, List.set_cons_zero, List.set_cons_succ]
                    rw [hu22]
                    simp only [Option.getD_some]
                    have HE := Lib.hid (And.intro hs.below (And.intro hs.old hs.box))
                    have hox := hs.box
                    clear hs hd hu22
                    cases ov with
                    | true =>
                      have HNN : Hid (RES = none) := Lib.hid (HNONE.out (.inr (.inr (.inl (by have := HOV.out; simp only [decide_eq_true_eq] at this; exact (HX.out.2.2.2.2.2.2).symm ▸ this)))))
                      go_wp2_with fail
                      go_ret2
                      exact ⟨HE.out.1, .inl ⟨HNN.out, rfl⟩⟩
                    | false =>
                      have HNV : Hid (¬ S.rules < (tx.length : Int)) := Lib.hid (by have := HOV.out; simp only [decide_eq_false_iff_not] at this; rw [HX.out.2.2.2.2.2.2]; exact this)
                      have HUN : Hid (notUp (prevN ns k) n = false) := Lib.hid HU.out
                      obtain ⟨y0, y1, y2, y3, y4, _⟩ := shCells hox
                      have zT : bT < wx.heap.size := by have := HE.out.1.size; omega
                      have zN : bN < wx.heap.size := by have := HE.out.1.size; omega
                      have yT1 : wx.cell? ⟨bT, oT + k, none⟩ = some (.slice AX tx.length cX) := (HE.out.1.cell (p := ⟨bT, oT + k, none⟩) hbT).trans yT
                      have hzx : w.heap.size < wx.heap.size := blk_lt hox
                      clear hox HOV
                      go_wp2_with fail
                      clear y0 y1 y2 y3 y4 yT1 zT zN hzx
                      obtain ⟨wo, rfl⟩ : ∃ wo : World, wo = wr := ⟨_, rfl⟩
                      go_loopg [7] tx.length (fun g s7 w3 => ∃ j : Nat, j ≤ tx.length ∧ g = tx.length - j ∧ s7 = .int .i64 j ∧ Below wo.heap.size wo w3 ∧ ∀ i t, i < j → tx[i]? = some t → ∃ r, parseF t = .ok r ∧ refWriteS r = t)
                      case atStart => exact ⟨0, Nat.zero_le _, rfl, rfl, HE.out.2.1, fun i t hi => absurd hi (by omega)⟩
                      case round =>
                        clear HE
                        obtain ⟨j, hj, hgj, rfl, hb3, hall⟩ := hrel
                        have hbw : Below w.heap.size w wr := HX.out.1.trans (hb3.mono HX.out.1.size)
                        have hbox3 := blk_below HX.out.2.1 hb3 (blk_lt HX.out.2.1)
                        obtain ⟨y0, y1, y2, y3, y4, _⟩ := shCells hbox3
                        have yT1 : wr.cell? ⟨bT, oT + k, none⟩ = some (.slice AX tx.length cX) := (hbw.cell (p := ⟨bT, oT + k, none⟩) hbT).trans yT
                        have zT : bT < wr.heap.size := by have := hbw.size; omega
                        have zN : bN < wr.heap.size := by have := hbw.size; omega
                        have hzx : w.heap.size < wr.heap.size := blk_lt hbox3
                        have HY := Lib.hid (And.intro hbw (And.intro hbox3 hb3))
                        have HJ := Lib.hid (And.intro hj (And.intro hgj hall))
                        clear hbw hbox3 hb3 hgj hall hj
                        by_cases hjl : j < tx.length
                        · have s2 : (j : Int) < (tx.length : Int) := by omega
                          have s4 : (0 : Int) ≤ (j : Int) := by omega
                          have hwj : IntKind.i64.wrap ((j : Int) + 1) = (j : Int) + 1 := IntWalk.i64_in _ (by have := HZN.out.2.1; omega)
                          obtain ⟨t, htj⟩ : ∃ t, tx[j]? = some t := ⟨_, List.getElem?_eq_getElem hjl⟩
                          obtain ⟨bX, oX, rfl, _, hbX, yX0⟩ := HTX.out.2.1.at hjl
                          have htt : tx[j] = t := by rw [List.getElem?_eq_getElem hjl] at htj; exact Option.some.inj htj
                          rw [htt] at yX0
                          have yX : wr.cell? ⟨bX, oX + j, none⟩ = some (.string t) := (HY.out.1.cell (p := ⟨bX, oX + j, none⟩) hbX).trans yX0
                          have zX : bX < wr.heap.size := by have := HY.out.1.size; omega
                          have hts : t.size ≤ 1000000 := HZN.out.2.2 t (List.mem_of_getElem? htj)
                          have C2 := refparse_full t wr (by omega)
                          have HTJ := Lib.hid (And.intro htj (And.intro hts hjl))
                          clear htj htt hts hjl
                          cases hp : parseF t with
                          | error e0 =>
                            rw [hp] at C2
                            simp only [parseV] at C2
                            have he0 : e0 ≠ 0 := parseF_err hp
                            have t10 : (e0 != 0) = true := by simpa using he0
                            have HNN : Hid (RES = none) := Lib.hid (HNONE.out (.inr (.inr (.inr (.inl (fun h => by
                              obtain ⟨r, h1, _⟩ := h t (List.mem_of_getElem? HTJ.out.1)
                              rw [hp] at h1
                              cases h1))))))
                            have HC2 := Lib.hid C2
                            clear hp C2 he0
                            go_wp2_with fail
                            refine HC2.out.mono ?_
                            rintro e w5 ⟨rfl, hb5⟩
                            have HB5 := Lib.hid hb5
                            clear hb5 HC2
                            go_wp2_with fail
                            clear y0 y1 y2 y3 y4 yX
                            refine Reg.wp_region_puts (A := [[], [0], [1, 0], [2, 1, 0], [3, 2, 1, 0], [2, 1, 0], [5, 2, 1, 0], [2, 1, 0], [6, 5, 2, 1, 0, 7], [8, 6, 5, 2, 1, 0, 7], [2, 1, 0], [9, 8, 6, 5, 2, 1, 0, 7, 10], [11, 9, 8, 6, 5, 2, 1, 0, 7, 10], [4, 3, 2, 1, 0, 12, 11, 9, 8, 6, 5, 7, 10], [2, 1, 0, 13, 4, 3, 12, 11, 9, 8, 6, 5, 7, 10]]) (effs := []) (N := 141)
                              (val := fun i r => match i with | 0 => .int .i64 e0 | 1 => .bool true | 2 => .bool true | 3 => undef | 4 => undef | 5 => undef | 6 => undef | 7 => undef | 8 => undef | 9 => undef | 10 => undef | 11 => undef | 12 => undef | 13 => undef | 14 => .bool true | _ => undef)
                              (Stage := fun rs wx => Below w.heap.size w wx)
                              (fun rs => [(some 102, .int .i64 e0), (some 103, .bool true), (some 104, .bool true), (some 105, undef), (some 106, undef), (some 107, undef), (some 108, undef), (some 109, undef), (some 110, undef), (some 111, undef), (some 112, undef), (some 113, undef), (some 114, undef), (some 115, undef), (some 116, .bool true)])
                              (by kernel_rfl) (by kernel_rfl) rfl (fun _ => rfl) ?h0 ?hob ?hend
                            case hob =>
                              intro i hi
                              match i, hi with
                              | 0, _ => exact Reg.Ob.pure rfl rfl rfl (fun rs => .int .i64 e0) (fun _ => rfl) (fun rs wx r hs hd hl hk => by
                                  have e9 : (r.tmps[9]?).getD undef = .int .i64 e0 := hk 9 (by decide)
                                  go_simp)
                              | 1, _ => exact Reg.Ob.pure rfl rfl rfl (fun rs => .bool true) (fun _ => rfl) (fun rs wx r hs hd hl hk => by
                                  have e102 : (r.tmps[102]?).getD undef = .int .i64 e0 := hk 102 (by decide)
                                  go_simp)
                              | 2, _ => exact Reg.Ob.pure rfl rfl rfl (fun rs => .bool true) (fun _ => rfl) (fun rs wx r hs hd hl hk => by
                                  have e103 : (r.tmps[103]?).getD undef = .bool true := hk 103 (by decide)
                                  go_simp)
                              | 3, _ => exact Reg.Ob.skip rfl rfl (fun _ => rfl) (fun rs wx hs hd => rfl)
                              | 4, _ => exact Reg.Ob.skip rfl rfl (fun _ => rfl) (fun rs wx hs hd => rfl)
                              | 5, _ => exact Reg.Ob.skip rfl rfl (fun _ => rfl) (fun rs wx hs hd => rfl)
                              | 6, _ => exact Reg.Ob.skip rfl rfl (fun _ => rfl) (fun rs wx hs hd => rfl)
                              | 7, _ => exact Reg.Ob.skip rfl rfl (fun _ => rfl) (fun rs wx hs hd => rfl)
                              | 8, _ => exact Reg.Ob.skip rfl rfl (fun _ => rfl) (fun rs wx hs hd => rfl)
                              | 9, _ => exact Reg.Ob.skip rfl rfl (fun _ => rfl) (fun rs wx hs hd => rfl)
                              | 10, _ => exact Reg.Ob.skip rfl rfl (fun _ => rfl) (fun rs wx hs hd => rfl)
                              | 11, _ => exact Reg.Ob.skip rfl rfl (fun _ => rfl) (fun rs wx hs hd => rfl)
                              | 12, _ => exact Reg.Ob.skip rfl rfl (fun _ => rfl) (fun rs wx hs hd => rfl)
                              | 13, _ => exact Reg.Ob.skip rfl rfl (fun _ => rfl) (fun rs wx hs hd => rfl)
                              | 14, _ => exact Reg.Ob.pure rfl rfl rfl (fun rs => .bool true) (fun _ => rfl) (fun rs wx r hs hd hl hk => by
                                  have e104 : (r.tmps[104]?).getD undef = .bool true := hk 104 (by decide)
                                  have e115 : (r.tmps[115]?).getD undef = undef := hk 115 (by decide)
                                  go_simp)
                              | n + 15, h => exact absurd h (by simp <;> omega)
                            case h0 =>
                              exact ((HY.out.1.trans (HB5.out.mono HY.out.1.size)).alloc (by have := HY.out.1.size; have := HB5.out.size; omega) _).drew
                            case hend =>
                              intro rs wx hs hd
                              simp only [List.foldl_cons, List.foldl_nil, Act.put, List.setIfInBounds_toArray, List.set_cons_zero, List.set_cons_succ]
                              have HE := Lib.hid hs
                              clear hs hd
                              go_wp2_with fail
                              go_ret2
                              exact ⟨HE.out, .inl ⟨HNN.out, rfl⟩⟩
                          | ok rl =>
                            rw [hp] at C2
                            simp only [parseV] at C2
                            have hr1 := parseF_byle5 hp
                            have hr2 := parseF_small hp
                            obtain ⟨eqb, heqb⟩ : ∃ b, ((refWriteS rl).toList == t.toList) = b := ⟨_, rfl⟩
                            have HEB := Lib.hid heqb
                            have HPP := Lib.hid hp
                            have HC2 := Lib.hid C2
                            have HRS := Lib.hid (And.intro hr1 hr2)
                            clear hp C2 hr1 hr2 heqb
                            go_wp2_with fail
                            refine HC2.out.mono ?_
                            rintro e w5 ⟨rfl, hb5⟩
                            have HB5 := Lib.hid hb5
                            clear hb5 HC2
                            go_wp2_with fail
                            clear y0 y1 y2 y3 y4 yX
                            refine Reg.wp_region_puts (A := [[], [0], [1, 0], [2, 1, 0], [3, 2, 1, 0], [2, 1, 0], [5, 2, 1, 0], [2, 1, 0], [6, 5, 2, 1, 0, 7], [8, 6, 5, 2, 1, 0, 7], [2, 1, 0], [9, 8, 6, 5, 2, 1, 0, 7, 10], [11, 9, 8, 6, 5, 2, 1, 0, 7, 10], [4, 3, 2, 1, 0, 12, 11, 9, 8, 6, 5, 7, 10], [2, 1, 0, 13, 4, 3, 12, 11, 9, 8, 6, 5, 7, 10]]) (effs := [4]) (N := 141)
                              (val := fun i r => match i with | 0 => .int .i64 0 | 1 => .bool false | 2 => .bool false | 3 => .agg #[.bool rl.allow, .bool rl.inn, .bool rl.out, .string rl.by_, .string rl.value] | 5 => .pointer (some ⟨w.heap.size, 4, none⟩) | 6 => .slice (some ⟨bT, oT, none⟩) tss.length cT | 7 => .int .i64 k | 8 => .pointer (some ⟨bT, oT + k, none⟩) | 9 => .slice (some ⟨bX, oX, none⟩) tx.length cX | 10 => .int .i64 j | 11 => .pointer (some ⟨bX, oX + j, none⟩) | 12 => .string t | 13 => .bool (!eqb) | 14 => .bool (!eqb) | _ => undef)
                              (Stage := fun rs wx => RpSt w wo wx (.cells #[.int .i64 sl, .int .i64 sr, .string sd, .slice (some ⟨bN, oN, none⟩) ns.length cN, .slice (some ⟨bT, oT, none⟩) tss.length cT] 38) w5.heap.size rl rs)
                              (fun rs => [(some 102, .int .i64 0), (some 103, .bool false), (some 104, .bool false), (some 105, .agg #[.bool rl.allow, .bool rl.inn, .bool rl.out, .string rl.by_, .string rl.value]), (some 106, (rs 4).getD undef), (some 107, .pointer (some ⟨w.heap.size, 4, none⟩)), (some 108, .slice (some ⟨bT, oT, none⟩) tss.length cT), (some 109, .int .i64 k), (some 110, .pointer (some ⟨bT, oT + k, none⟩)), (some 111, .slice (some ⟨bX, oX, none⟩) tx.length cX), (some 112, .int .i64 j), (some 113, .pointer (some ⟨bX, oX + j, none⟩)), (some 114, .string t), (some 115, .bool (!eqb)), (some 116, .bool (!eqb))])
                              (by kernel_rfl) (by kernel_rfl) rfl (fun _ => rfl) ?h0 ?hob ?hend
                            case hob =>
                              intro i hi
                              match i, hi with
                              | 0, _ => exact Reg.Ob.pure rfl rfl rfl (fun rs => .int .i64 0) (fun _ => rfl) (fun rs wx r hs hd hl hk => by
                                  have e9 : (r.tmps[9]?).getD undef = .int .i64 0 := hk 9 (by decide)
                                  go_simp)
                              | 1, _ => exact Reg.Ob.pure rfl rfl rfl (fun rs => .bool false) (fun _ => rfl) (fun rs wx r hs hd hl hk => by
                                  have e102 : (r.tmps[102]?).getD undef = .int .i64 0 := hk 102 (by decide)
                                  go_simp)
                              | 2, _ => exact Reg.Ob.pure rfl rfl rfl (fun rs => .bool false) (fun _ => rfl) (fun rs wx r hs hd hl hk => by
                                  have e103 : (r.tmps[103]?).getD undef = .bool false := hk 103 (by decide)
                                  go_simp)
                              | 3, _ => exact Reg.Ob.guarded rfl rfl (fun rs => .agg #[.bool rl.allow, .bool rl.inn, .bool rl.out, .string rl.by_, .string rl.value]) (fun _ => rfl) (fun rs wx hs hd => rfl) (fun rs wx r hs hd hl hk => by
                                  have e8 : (r.tmps[8]?).getD undef = .pointer (some ⟨w5.heap.size, 0, none⟩) := hk 8 (by decide)
                                  have c0 := blk_cell hs.rbox 0
                                  have c1 := blk_cell hs.rbox 1
                                  have c2 := blk_cell hs.rbox 2
                                  have c3 := blk_cell hs.rbox 3
                                  have c4 := blk_cell hs.rbox 4
                                  go_simp)
                              | 4, _ =>
                                refine Reg.Ob.geff rfl rfl (fun rs wx hs hd => rfl) ?_
                                intro rs wx r hs hd hn hl hk K hK
                                have e105 : (r.tmps[105]?).getD undef = .agg #[.bool rl.allow, .bool rl.inn, .bool rl.out, .string rl.by_, .string rl.value] := hk 105 (by decide)
                                have C := refwrite_any rl (by have := HRS.out; omega) (by have := HRS.out; have := HTJ.out; omega) wx
                                have HC := Lib.hid C
                                clear C
                                have HS := Lib.hid hs
                                have HN' := Lib.hid hn
                                have HL := Lib.hid hl
                                have HKK := Lib.hid hK
                                clear hs hn hd hl hk hK
                                go_simp
                                refine HC.out.mono ?_
                                rintro e w5 ⟨rfl, hb5⟩
                                refine HKK.out _ _ ⟨HS.out.below.trans (hb5.mono HS.out.below.size), HS.out.old.trans (hb5.mono HS.out.old.size), blk_below HS.out.box hb5 (blk_lt HS.out.box), blk_below HS.out.rbox hb5 (blk_lt HS.out.rbox), fun u hu => ?_⟩
                                have h2 : some (Value.string (refWriteS rl)) = some u := hu
                                cases h2
                                rfl
                              | 5, _ => exact Reg.Ob.guarded rfl rfl (fun rs => .pointer (some ⟨w.heap.size, 4, none⟩)) (fun _ => rfl) (fun rs wx hs hd => rfl) (fun rs wx r hs hd hl hk => by
                                  have e1 : (r.tmps[1]?).getD undef = .pointer (some ⟨w.heap.size, 0, none⟩) := hk 1 (by decide)
                                  go_simp)
                              | 6, _ => exact Reg.Ob.guarded rfl rfl (fun rs => .slice (some ⟨bT, oT, none⟩) tss.length cT) (fun _ => rfl) (fun rs wx hs hd => rfl) (fun rs wx r hs hd hl hk => by
                                  have e107 : (r.tmps[107]?).getD undef = .pointer (some ⟨w.heap.size, 4, none⟩) := hk 107 (by decide)
                                  have c1 : wx.cell? ⟨w.heap.size, 4, none⟩ = some (.slice (some ⟨bT, oT, none⟩) tss.length cT) := blk_cell hs.box 4
                                  go_simp)
                              | 7, _ => exact Reg.Ob.guarded rfl rfl (fun rs => .int .i64 k) (fun _ => rfl) (fun rs wx hs hd => rfl) (fun rs wx r hs hd hl hk => by
                                  have e6 : (r.tmps[6]?).getD undef = .int .i64 k := hk 6 (by decide)
                                  go_simp)
                              | 8, _ => exact Reg.Ob.guarded rfl rfl (fun rs => .pointer (some ⟨bT, oT + k, none⟩)) (fun _ => rfl) (fun rs wx hs hd => rfl) (fun rs wx r hs hd hl hk => by
                                  have e108 : (r.tmps[108]?).getD undef = .slice (some ⟨bT, oT, none⟩) tss.length cT := hk 108 (by decide)
                                  have e109 : (r.tmps[109]?).getD undef = .int .i64 k := hk 109 (by decide)
                                  go_simp)
                              | 9, _ => exact Reg.Ob.guarded rfl rfl (fun rs => .slice (some ⟨bX, oX, none⟩) tx.length cX) (fun _ => rfl) (fun rs wx hs hd => rfl) (fun rs wx r hs hd hl hk => by
                                  have e110 : (r.tmps[110]?).getD undef = .pointer (some ⟨bT, oT + k, none⟩) := hk 110 (by decide)
                                  have c1 : wx.cell? ⟨bT, oT + k, none⟩ = some (.slice (some ⟨bX, oX, none⟩) tx.length cX) := (hs.below.cell (p := ⟨bT, oT + k, none⟩) hbT).trans yT
                                  go_simp)
                              | 10, _ => exact Reg.Ob.guarded rfl rfl (fun rs => .int .i64 j) (fun _ => rfl) (fun rs wx hs hd => rfl) (fun rs wx r hs hd hl hk => by
                                  have e7 : (r.tmps[7]?).getD undef = .int .i64 j := hk 7 (by decide)
                                  go_simp)
                              | 11, _ => exact Reg.Ob.guarded rfl rfl (fun rs => .pointer (some ⟨bX, oX + j, none⟩)) (fun _ => rfl) (fun rs wx hs hd => rfl) (fun rs wx r hs hd hl hk => by
                                  have e111 : (r.tmps[111]?).getD undef = .slice (some ⟨bX, oX, none⟩) tx.length cX := hk 111 (by decide)
                                  have e112 : (r.tmps[112]?).getD undef = .int .i64 j := hk 112 (by decide)
                                  go_simp)
                              | 12, _ => exact Reg.Ob.guarded rfl rfl (fun rs => .string t) (fun _ => rfl) (fun rs wx hs hd => rfl) (fun rs wx r hs hd hl hk => by
                                  have e113 : (r.tmps[113]?).getD undef = .pointer (some ⟨bX, oX + j, none⟩) := hk 113 (by decide)
                                  have c1 : wx.cell? ⟨bX, oX + j, none⟩ = some (.string t) := (hs.below.cell (p := ⟨bX, oX + j, none⟩) hbX).trans yX0
                                  go_simp)
                              | 13, _ => exact Reg.Ob.guarded rfl rfl (fun rs => .bool (!eqb)) (fun _ => rfl) (fun rs wx hs hd => rfl) (fun rs wx r hs hd hl hk => by
                                  have e106 : (r.tmps[106]?).getD undef = ((rs 4).getD undef) := hk 106 (by decide)
                                  have e114 : (r.tmps[114]?).getD undef = .string t := hk 114 (by decide)
                                  obtain ⟨u4, hu4⟩ := hd 4 (by decide) (by decide)
                                  obtain rfl := hs.txt u4 hu4
                                  rw [hu4] at e106
                                  simp only [Option.getD_some] at e106
                                  have t9 := HEB.out
                                  clear hu4
                                  go_simp)
                              | 14, _ => exact Reg.Ob.pure rfl rfl rfl (fun rs => .bool (!eqb)) (fun _ => rfl) (fun rs wx r hs hd hl hk => by
                                  have e104 : (r.tmps[104]?).getD undef = .bool false := hk 104 (by decide)
                                  have e115 : (r.tmps[115]?).getD undef = .bool (!eqb) := hk 115 (by decide)
                                  go_simp)
                              | n + 15, h => exact absurd h (by simp <;> omega)
                            case h0 =>
                              exact ⟨((HY.out.1.trans (HB5.out.mono HY.out.1.size)).alloc (by have := HY.out.1.size; have := HB5.out.size; omega) _).drew, ((HY.out.2.2.trans (HB5.out.mono HY.out.2.2.size)).alloc (by have := HY.out.2.2.size; have := HB5.out.size; omega) _).drew, blk_alloc (blk_below HY.out.2.1 HB5.out (blk_lt HY.out.2.1)) _, blk_new _ _, fun u hu => (by cases hu)⟩
                            case hend =>
                              intro rs wx hs hd
                              obtain ⟨u4, hu4⟩ := hd 4 (by decide) (by decide)
                              obtain rfl := hs.txt u4 hu4
                              simp only [List.foldl_cons, List.foldl_nil, Act.put, List.setIfInBounds_toArray, List.set_cons_zero, List.set_cons_succ]
                              rw [hu4]
                              simp only [Option.getD_some]
                              have HE := Lib.hid (And.intro hs.below hs.old)
                              clear hs hd hu4
                              cases eqb with
                              | false =>
                                have HNN : Hid (RES = none) := Lib.hid (HNONE.out (.inr (.inr (.inr (.inl (fun h => by
                                  obtain ⟨r', h1, h2⟩ := h t (List.mem_of_getElem? HTJ.out.1)
                                  rw [HPP.out] at h1
                                  cases h1
                                  have := HEB.out
                                  rw [toList_beq, decide_eq_false_iff_not] at this
                                  exact this h2))))))
                                clear HEB
                                go_wp2_with fail
                                go_ret2
                                exact ⟨HE.out.1, .inl ⟨HNN.out, rfl⟩⟩
                              | true =>
                                have HW2 : Hid (refWriteS rl = t) := Lib.hid (by have := HEB.out; rw [toList_beq, decide_eq_true_eq] at this; exact this)
                                clear HEB
                                go_wp2_with fail
                                go_roundg (tx.length - (j + 1))
                                case measure => have := HJ.out.2.1; have := HTJ.out.2.2; omega
                                case rel =>
                                  refine ⟨j + 1, by have := HTJ.out.2.2; omega, rfl, by go_num, HE.out.2, fun i t' hi ht' => ?_⟩
                                  by_cases e : i = j
                                  · subst e
                                    rw [HTJ.out.1] at ht'
                                    cases ht'
                                    exact ⟨rl, HPP.out, HW2.out⟩
                                  · exact HJ.out.2.2 i t' (by omega) ht'
                        · have e : j = tx.length := by have := HJ.out.1; omega
                          have htok : txOk tx := fun t ht => by
                            obtain ⟨i, hi, hti⟩ := List.getElem_of_mem ht
                            exact HJ.out.2.2 i t (by omega) (by rw [List.getElem?_eq_getElem hi, hti])
                          have HOK := Lib.hid htok
                          clear htok
                          subst e
                          have s2 : ¬ (tx.length : Int) < (tx.length : Int) := by omega
                          obtain ⟨X, hX⟩ : ∃ X, (S.set n tx).2 = X := ⟨_, rfl⟩
                          obtain ⟨d, hd0⟩ : ∃ d, (S.set n tx).1 = d := ⟨_, rfl⟩
                          have HXD := Lib.hid (And.intro hX hd0)
                          clear hX hd0 hjl
                          go_wp2_with fail
                          clear y0 y1 y2 y3 y4
                          refine Reg.wp_region_puts (A := [[], [], [1], [], [2, 1, 3], [4, 2, 1, 3], [], [6], [], [7, 6, 8], [9, 7, 6, 8], [0, 5, 4, 2, 1, 3, 10, 9, 7, 6, 8], [11, 0, 5, 4, 2, 1, 3, 10, 9, 7, 6, 8]]) (effs := [11]) (N := 141)
                            (val := fun i r => match i with | 0 => .pointer (some ⟨qb, 0, none⟩) | 1 => .pointer (some ⟨w.heap.size, 3, none⟩) | 2 => .slice (some ⟨bN, oN, none⟩) ns.length cN | 3 => .int .i64 k | 4 => .pointer (some ⟨bN, oN + k, none⟩) | 5 => .string n | 6 => .pointer (some ⟨w.heap.size, 4, none⟩) | 7 => .slice (some ⟨bT, oT, none⟩) tss.length cT | 8 => .int .i64 k | 9 => .pointer (some ⟨bT, oT + k, none⟩) | 10 => .slice AX tx.length cX | 12 => .bool (d != 0) | _ => undef)
                            (Stage := fun rs wx => RsSt w wx (.cells #[.int .i64 sl, .int .i64 sr, .string sd, .slice (some ⟨bN, oN, none⟩) ns.length cN, .slice (some ⟨bT, oT, none⟩) tss.length cT] 38) qb S X d rs)
                            (fun rs => [(some 117, .pointer (some ⟨qb, 0, none⟩)), (some 118, .pointer (some ⟨w.heap.size, 3, none⟩)), (some 119, .slice (some ⟨bN, oN, none⟩) ns.length cN), (some 120, .int .i64 k), (some 121, .pointer (some ⟨bN, oN + k, none⟩)), (some 122, .string n), (some 123, .pointer (some ⟨w.heap.size, 4, none⟩)), (some 124, .slice (some ⟨bT, oT, none⟩) tss.length cT), (some 125, .int .i64 k), (some 126, .pointer (some ⟨bT, oT + k, none⟩)), (some 127, .slice AX tx.length cX), (some 128, (rs 11).getD undef), (some 129, .bool (d != 0))])
                            (by kernel_rfl) (by kernel_rfl) rfl (fun _ => rfl) ?h0 ?hob ?hend
                          case hob =>
                            intro i hi
                            match i, hi with
                            | 0, _ => exact Reg.Ob.pure rfl rfl rfl (fun rs => .pointer (some ⟨qb, 0, none⟩)) (fun _ => rfl) (fun rs wx r hs hd hl hk => by
                                have e4 : (r.tmps[4]?).getD undef = .pointer (some ⟨qb, 0, none⟩) := hk 4 (by decide)
                                go_simp)
                            | 1, _ => exact Reg.Ob.pure rfl rfl rfl (fun rs => .pointer (some ⟨w.heap.size, 3, none⟩)) (fun _ => rfl) (fun rs wx r hs hd hl hk => by
                                have e1 : (r.tmps[1]?).getD undef = .pointer (some ⟨w.heap.size, 0, none⟩) := hk 1 (by decide)
                                go_simp)
                            | 2, _ => exact Reg.Ob.pure rfl rfl rfl (fun rs => .slice (some ⟨bN, oN, none⟩) ns.length cN) (fun _ => rfl) (fun rs wx r hs hd hl hk => by
                                have e118 : (r.tmps[118]?).getD undef = .pointer (some ⟨w.heap.size, 3, none⟩) := hk 118 (by decide)
                                have c1 : wx.cell? ⟨w.heap.size, 3, none⟩ = some (.slice (some ⟨bN, oN, none⟩) ns.length cN) := blk_cell hs.box 3
                                go_simp)
                            | 3, _ => exact Reg.Ob.pure rfl rfl rfl (fun rs => .int .i64 k) (fun _ => rfl) (fun rs wx r hs hd hl hk => by
                                have e6 : (r.tmps[6]?).getD undef = .int .i64 k := hk 6 (by decide)
                                go_simp)
                            | 4, _ => exact Reg.Ob.pure rfl rfl rfl (fun rs => .pointer (some ⟨bN, oN + k, none⟩)) (fun _ => rfl) (fun rs wx r hs hd hl hk => by
                                have e119 : (r.tmps[119]?).getD undef = .slice (some ⟨bN, oN, none⟩) ns.length cN := hk 119 (by decide)
                                have e120 : (r.tmps[120]?).getD undef = .int .i64 k := hk 120 (by decide)
                                go_simp)
                            | 5, _ => exact Reg.Ob.pure rfl rfl rfl (fun rs => .string n) (fun _ => rfl) (fun rs wx r hs hd hl hk => by
                                have e121 : (r.tmps[121]?).getD undef = .pointer (some ⟨bN, oN + k, none⟩) := hk 121 (by decide)
                                have c1 : wx.cell? ⟨bN, oN + k, none⟩ = some (.string n) := (hs.below.cell (p := ⟨bN, oN + k, none⟩) hbN).trans yN0
                                go_simp)
                            | 6, _ => exact Reg.Ob.pure rfl rfl rfl (fun rs => .pointer (some ⟨w.heap.size, 4, none⟩)) (fun _ => rfl) (fun rs wx r hs hd hl hk => by
                                have e1 : (r.tmps[1]?).getD undef = .pointer (some ⟨w.heap.size, 0, none⟩) := hk 1 (by decide)
                                go_simp)
                            | 7, _ => exact Reg.Ob.pure rfl rfl rfl (fun rs => .slice (some ⟨bT, oT, none⟩) tss.length cT) (fun _ => rfl) (fun rs wx r hs hd hl hk => by
                                have e123 : (r.tmps[123]?).getD undef = .pointer (some ⟨w.heap.size, 4, none⟩) := hk 123 (by decide)
                                have c1 : wx.cell? ⟨w.heap.size, 4, none⟩ = some (.slice (some ⟨bT, oT, none⟩) tss.length cT) := blk_cell hs.box 4
                                go_simp)
                            | 8, _ => exact Reg.Ob.pure rfl rfl rfl (fun rs => .int .i64 k) (fun _ => rfl) (fun rs wx r hs hd hl hk => by
                                have e6 : (r.tmps[6]?).getD undef = .int .i64 k := hk 6 (by decide)
                                go_simp)
                            | 9, _ => exact Reg.Ob.pure rfl rfl rfl (fun rs => .pointer (some ⟨bT, oT + k, none⟩)) (fun _ => rfl) (fun rs wx r hs hd hl hk => by
                                have e124 : (r.tmps[124]?).getD undef = .slice (some ⟨bT, oT, none⟩) tss.length cT := hk 124 (by decide)
                                have e125 : (r.tmps[125]?).getD undef = .int .i64 k := hk 125 (by decide)
                                go_simp)
                            | 10, _ => exact Reg.Ob.pure rfl rfl rfl (fun rs => .slice AX tx.length cX) (fun _ => rfl) (fun rs wx r hs hd hl hk => by
                                have e126 : (r.tmps[126]?).getD undef = .pointer (some ⟨bT, oT + k, none⟩) := hk 126 (by decide)
                                have c1 : wx.cell? ⟨bT, oT + k, none⟩ = some (.slice AX tx.length cX) := (hs.below.cell (p := ⟨bT, oT + k, none⟩) hbT).trans yT
                                go_simp)
                            | 11, _ =>
                              refine Reg.Ob.eff rfl rfl rfl ?_
                              intro rs wx r hs hd hn hl hk K hK
                              have e117 : (r.tmps[117]?).getD undef = .pointer (some ⟨qb, 0, none⟩) := hk 117 (by decide)
                              have e122 : (r.tmps[122]?).getD undef = .string n := hk 122 (by decide)
                              have e127 : (r.tmps[127]?).getD undef = .slice AX tx.length cX := hk 127 (by decide)
                              have hr0 := hs.old hn
                              have C := rset17_any hr0 n (HZN.out.1) (.slice AX tx.length cX) tx (HTX.out.2.1.below hs.below) HZN.out.2.1 HZN.out.2.2 (by have := HK.out.1; have := HZ.out.2.1; have := HX.out.2.2.2.2.1; omega) hs.below.size
                              rw [HXD.out.1, HXD.out.2] at C
                              have HC := Lib.hid (And.intro C hr0)
                              clear C hr0
                              have HS := Lib.hid hs
                              have HN' := Lib.hid hn
                              have HL := Lib.hid hl
                              have HKK := Lib.hid hK
                              clear hs hn hd hl hk hK
                              go_simp
                              refine HC.out.1.mono ?_
                              rintro e w5 ⟨rfl, hr5, hu5⟩
                              refine HKK.out _ _ ⟨below_refd HS.out.below HC.out.2 hu5 HS.out.below.size, box_refd HS.out.box (by decide) HC.out.2 hu5, fun h => (by simp [Reg.upd] at h), fun u hu => ?_⟩
                              have h2 : some (Value.int .i64 d) = some u := hu
                              cases h2
                              exact ⟨rfl, hr5⟩
                            | 12, _ => exact Reg.Ob.pure rfl rfl rfl (fun rs => .bool (d != 0)) (fun _ => rfl) (fun rs wx r hs hd hl hk => by
                                have e128 : (r.tmps[128]?).getD undef = ((rs 11).getD undef) := hk 128 (by decide)
                                obtain ⟨u11, hu11⟩ := hd 11 (by decide) (by decide)
                                obtain ⟨rfl, _⟩ := hs.new u11 hu11
                                rw [hu11] at e128
                                simp only [Option.getD_some] at e128
                                clear hu11
                                go_simp)
                            | n + 13, h => exact absurd h (by simp <;> omega)
                          case h0 =>
                            exact ⟨HY.out.1.drew, HY.out.2.1, fun _ => HX.out.2.2.1.below (HY.out.2.2.trans ((below_drewNs wr 1).mono HY.out.2.2.size)), fun u hu => (by cases hu)⟩
                          case hend =>
                            intro rs wx hs hd
                            obtain ⟨u11, hu11⟩ := hd 11 (by decide) (by decide)
                            obtain ⟨rfl, hnew⟩ := hs.new u11 hu11
                            simp only [List.foldl_cons, List.foldl_nil, Act.put, List.setIfInBounds_toArray, List.set_cons_zero, List.set_cons_succ]
                            rw [hu11]
                            simp only [Option.getD_some]
                            have HE := Lib.hid (And.intro hs.below (And.intro hs.box hnew))
                            clear hs hd hu11 hnew
                            by_cases hd0 : d = 0
                            · subst hd0
                              have hs1 : uptoR (RL.new sl sr) ns tss (k + 1) = some X := by rw [HST2.out, stepR_some HUN.out HWD.out.2 (Int.not_lt.2 HNV.out) HOK.out HXD.out.2, HXD.out.1]
                              have HS1 := Lib.hid hs1
                              clear hs1
                              go_wp2_with fail
                              go_roundg (ns.length - (k + 1))
                              case measure => have := HK.out.2; have := HTX.out.2.2.2; omega
                              case rel => exact ⟨k + 1, X, by have := HTX.out.2.2.2; omega, rfl, by go_num, HE.out.1, HE.out.2.1, HE.out.2.2, HS1.out, uptoR_len HS0.out HS1.out, (uptoR_keeps HS1.out).1, (uptoR_keeps HS1.out).2.2⟩
                            · have HNN : Hid (RES = none) := Lib.hid (HNONE.out (.inr (.inr (.inr (.inr (by rw [HXD.out.2]; exact hd0))))))
                              have t6 : (d != 0) = true := by simpa using hd0
                              clear hd0
                              go_wp2_with fail
                              go_ret2
                              exact ⟨HE.out.1, .inl ⟨HNN.out, rfl⟩⟩
                · have t6 : (c != 0) = true := by simpa using hc0
                  have HNN : Hid (RES = none) := Lib.hid (HNONE.out (.inr (.inl (by rw [HWD.out.2]; exact hc0))))
                  clear hc0
                  go_wp2_with fail
                  clear y0 y1 y2 y3 y4 yN
                  refine Reg.wp_region_puts (A := [[], [0], [1, 0], [2, 1, 0], [3, 2, 1, 0], [2, 1, 0], [5, 2, 1, 0], [4, 3, 2, 1, 0, 6, 5], [7, 4, 3, 2, 1, 0, 6, 5], [2, 1, 0], [9, 2, 1, 0], [2, 1, 0], [10, 9, 2, 1, 0, 11], [12, 10, 9, 2, 1, 0, 11], [8, 7, 4, 3, 2, 1, 0, 6, 5, 13, 12, 10, 9, 11], [2, 1, 0, 14, 8, 7, 4, 3, 6, 5, 13, 12, 10, 9, 11], [15, 2, 1, 0, 14, 8, 7, 4, 3, 6, 5, 13, 12, 10, 9, 11], [16, 15, 2, 1, 0, 14, 8, 7, 4, 3, 6, 5, 13, 12, 10, 9, 11], [17, 16, 15, 2, 1, 0, 14, 8, 7, 4, 3, 6, 5, 13, 12, 10, 9, 11], [16, 15, 2, 1, 0, 14, 8, 7, 4, 3, 6, 5, 13, 12, 10, 9, 11], [18, 17, 16, 15, 2, 1, 0, 14, 8, 7, 4, 3, 6, 5, 13, 12, 10, 9, 11, 19], [20, 18, 17, 16, 15, 2, 1, 0, 14, 8, 7, 4, 3, 6, 5, 13, 12, 10, 9, 11, 19], [21, 20, 18, 17, 16, 15, 2, 1, 0, 14, 8, 7, 4, 3, 6, 5, 13, 12, 10, 9, 11, 19], [22, 21, 20, 18, 17, 16, 15, 2, 1, 0, 14, 8, 7, 4, 3, 6, 5, 13, 12, 10, 9, 11, 19], [16, 15, 2, 1, 0, 14, 8, 7, 4, 3, 6, 5, 13, 12, 10, 9, 11, 23, 22, 21, 20, 18, 17, 19], [24, 16, 15, 2, 1, 0, 14, 8, 7, 4, 3, 6, 5, 13, 12, 10, 9, 11, 23, 22, 21, 20, 18, 17, 19], [25, 24, 16, 15, 2, 1, 0, 14, 8, 7, 4, 3, 6, 5, 13, 12, 10, 9, 11, 23, 22, 21, 20, 18, 17, 19], [26, 25, 24, 16, 15, 2, 1, 0, 14, 8, 7, 4, 3, 6, 5, 13, 12, 10, 9, 11, 23, 22, 21, 20, 18, 17, 19], [25, 24, 16, 15, 2, 1, 0, 14, 8, 7, 4, 3, 6, 5, 13, 12, 10, 9, 11, 23, 22, 21, 20, 18, 17, 19], [27, 26, 25, 24, 16, 15, 2, 1, 0, 14, 8, 7, 4, 3, 6, 5, 13, 12, 10, 9, 11, 23, 22, 21, 20, 18, 17, 19, 28], [29, 27, 26, 25, 24, 16, 15, 2, 1, 0, 14, 8, 7, 4, 3, 6, 5, 13, 12, 10, 9, 11, 23, 22, 21, 20, 18, 17, 19, 28], [30, 29, 27, 26, 25, 24, 16, 15, 2, 1, 0, 14, 8, 7, 4, 3, 6, 5, 13, 12, 10, 9, 11, 23, 22, 21, 20, 18, 17, 19, 28], [25, 24, 16, 15, 2, 1, 0, 14, 8, 7, 4, 3, 6, 5, 13, 12, 10, 9, 11, 23, 22, 21, 20, 18, 17, 19], [32, 25, 24, 16, 15, 2, 1, 0, 14, 8, 7, 4, 3, 6, 5, 13, 12, 10, 9, 11, 23, 22, 21, 20, 18, 17, 19], [31, 30, 29, 27, 26, 25, 24, 16, 15, 2, 1, 0, 14, 8, 7, 4, 3, 6, 5, 13, 12, 10, 9, 11, 23, 22, 21, 20, 18, 17, 19, 28, 33, 32], [25, 24, 16, 15, 2, 1, 0, 14, 8, 7, 4, 3, 6, 5, 13, 12, 10, 9, 11, 23, 22, 21, 20, 18, 17, 19, 34, 31, 30, 29, 27, 26, 28, 33, 32]]) (effs := [22]) (N := 141)
                    (val := fun i r => match i with | 0 => .int .i64 k | 1 => .bool true | 2 => .bool true | 3 => .pointer (some ⟨w.heap.size, 3, none⟩) | 4 => .slice (some ⟨bN, oN, none⟩) ns.length cN | 5 => .int .i64 k | 6 => .int .i64 (kp : Nat) | 7 => .pointer (some ⟨bN, oN + kp, none⟩) | 8 => .string p | 9 => .pointer (some ⟨w.heap.size, 3, none⟩) | 10 => .slice (some ⟨bN, oN, none⟩) ns.length cN | 11 => .int .i64 k | 12 => .pointer (some ⟨bN, oN + k, none⟩) | 13 => .string n | 14 => .bool false | 15 => .bool false | 16 => .bool false | 17 => .pointer (some ⟨w.heap.size, 3, none⟩) | 18 => .slice (some ⟨bN, oN, none⟩) ns.length cN | 19 => .int .i64 k | 20 => .pointer (some ⟨bN, oN + k, none⟩) | 21 => .string n | 23 => .bool true | 24 => .bool true | 25 => .bool true | 26 => undef | 27 => undef | 28 => undef | 29 => undef | 30 => undef | 31 => undef | 32 => undef | 33 => undef | 34 => undef | 35 => .bool true | _ => undef)
                    (Stage := fun rs wx => RlSt w wr wx (.cells #[.int .i64 sl, .int .i64 sr, .string sd, .slice (some ⟨bN, oN, none⟩) ns.length cN, .slice (some ⟨bT, oT, none⟩) tss.length cT] 38) c rs)
                    (fun rs => [(some 44, .int .i64 k), (some 45, .bool true), (some 46, .bool true), (some 47, .pointer (some ⟨w.heap.size, 3, none⟩)), (some 48, .slice (some ⟨bN, oN, none⟩) ns.length cN), (some 49, .int .i64 k), (some 50, .int .i64 (kp : Nat)), (some 51, .pointer (some ⟨bN, oN + kp, none⟩)), (some 52, .string p), (some 53, .pointer (some ⟨w.heap.size, 3, none⟩)), (some 54, .slice (some ⟨bN, oN, none⟩) ns.length cN), (some 55, .int .i64 k), (some 56, .pointer (some ⟨bN, oN + k, none⟩)), (some 57, .string n), (some 58, .bool false), (some 59, .bool false), (some 60, .bool false), (some 61, .pointer (some ⟨w.heap.size, 3, none⟩)), (some 62, .slice (some ⟨bN, oN, none⟩) ns.length cN), (some 63, .int .i64 k), (some 64, .pointer (some ⟨bN, oN + k, none⟩)), (some 65, .string n), (some 66, (rs 22).getD undef), (some 67, .bool true), (some 68, .bool true), (some 69, .bool true), (some 70, undef), (some 71, undef), (some 72, undef), (some 73, undef), (some 74, undef), (some 75, undef), (some 76, undef), (some 77, undef), (some 78, undef), (some 79, .bool true)])
                    (by kernel_rfl) (by kernel_rfl) rfl (fun _ => rfl) ?h0 ?hob ?hend
                  case hob =>
                    intro i hi
                    match i, hi with
                    | 0, _ => exact Reg.Ob.pure rfl rfl rfl (fun rs => .int .i64 k) (fun _ => rfl) (fun rs wx r hs hd hl hk => by
                        have e6 : (r.tmps[6]?).getD undef = .int .i64 k := hk 6 (by decide)
                        go_simp)
                    | 1, _ => exact Reg.Ob.pure rfl rfl rfl (fun rs => .bool true) (fun _ => rfl) (fun rs wx r hs hd hl hk => by
                        have e44 : (r.tmps[44]?).getD undef = .int .i64 k := hk 44 (by decide)
                        have t9 := HK0.out
                        go_simp)
                    | 2, _ => exact Reg.Ob.pure rfl rfl rfl (fun rs => .bool true) (fun _ => rfl) (fun rs wx r hs hd hl hk => by
                        have e45 : (r.tmps[45]?).getD undef = .bool true := hk 45 (by decide)
                        go_simp)
                    | 3, _ => exact Reg.Ob.guarded rfl rfl (fun rs => .pointer (some ⟨w.heap.size, 3, none⟩)) (fun _ => rfl) (fun rs wx hs hd => rfl) (fun rs wx r hs hd hl hk => by
                        have e1 : (r.tmps[1]?).getD undef = .pointer (some ⟨w.heap.size, 0, none⟩) := hk 1 (by decide)
                        go_simp)
                    | 4, _ => exact Reg.Ob.guarded rfl rfl (fun rs => .slice (some ⟨bN, oN, none⟩) ns.length cN) (fun _ => rfl) (fun rs wx hs hd => rfl) (fun rs wx r hs hd hl hk => by
                        have e47 : (r.tmps[47]?).getD undef = .pointer (some ⟨w.heap.size, 3, none⟩) := hk 47 (by decide)
                        have c1 : wx.cell? ⟨w.heap.size, 3, none⟩ = some (.slice (some ⟨bN, oN, none⟩) ns.length cN) := blk_cell hs.box 3
                        go_simp)
                    | 5, _ => exact Reg.Ob.guarded rfl rfl (fun rs => .int .i64 k) (fun _ => rfl) (fun rs wx hs hd => rfl) (fun rs wx r hs hd hl hk => by
                        have e6 : (r.tmps[6]?).getD undef = .int .i64 k := hk 6 (by decide)
                        go_simp)
                    | 6, _ => exact Reg.Ob.guarded rfl rfl (fun rs => .int .i64 (kp : Nat)) (fun _ => rfl) (fun rs wx hs hd => rfl) (fun rs wx r hs hd hl hk => by
                        have e49 : (r.tmps[49]?).getD undef = .int .i64 k := hk 49 (by decide)
                        go_simp)
                    | 7, _ => exact Reg.Ob.guarded rfl rfl (fun rs => .pointer (some ⟨bN, oN + kp, none⟩)) (fun _ => rfl) (fun rs wx hs hd => rfl) (fun rs wx r hs hd hl hk => by
                        have e48 : (r.tmps[48]?).getD undef = .slice (some ⟨bN, oN, none⟩) ns.length cN := hk 48 (by decide)
                        have e50 : (r.tmps[50]?).getD undef = .int .i64 (kp : Nat) := hk 50 (by decide)
                        go_simp)
                    | 8, _ => exact Reg.Ob.guarded rfl rfl (fun rs => .string p) (fun _ => rfl) (fun rs wx hs hd => rfl) (fun rs wx r hs hd hl hk => by
                        have e51 : (r.tmps[51]?).getD undef = .pointer (some ⟨bN, oN + kp, none⟩) := hk 51 (by decide)
                        have c1 : wx.cell? ⟨bN, oN + kp, none⟩ = some (.string p) := (hs.below.cell (p := ⟨bN, oN + kp, none⟩) hbN).trans yp
                        go_simp)
                    | 9, _ => exact Reg.Ob.guarded rfl rfl (fun rs => .pointer (some ⟨w.heap.size, 3, none⟩)) (fun _ => rfl) (fun rs wx hs hd => rfl) (fun rs wx r hs hd hl hk => by
                        have e1 : (r.tmps[1]?).getD undef = .pointer (some ⟨w.heap.size, 0, none⟩) := hk 1 (by decide)
                        go_simp)
                    | 10, _ => exact Reg.Ob.guarded rfl rfl (fun rs => .slice (some ⟨bN, oN, none⟩) ns.length cN) (fun _ => rfl) (fun rs wx hs hd => rfl) (fun rs wx r hs hd hl hk => by
                        have e53 : (r.tmps[53]?).getD undef = .pointer (some ⟨w.heap.size, 3, none⟩) := hk 53 (by decide)
                        have c1 : wx.cell? ⟨w.heap.size, 3, none⟩ = some (.slice (some ⟨bN, oN, none⟩) ns.length cN) := blk_cell hs.box 3
                        go_simp)
                    | 11, _ => exact Reg.Ob.guarded rfl rfl (fun rs => .int .i64 k) (fun _ => rfl) (fun rs wx hs hd => rfl) (fun rs wx r hs hd hl hk => by
                        have e6 : (r.tmps[6]?).getD undef = .int .i64 k := hk 6 (by decide)
                        go_simp)
                    | 12, _ => exact Reg.Ob.guarded rfl rfl (fun rs => .pointer (some ⟨bN, oN + k, none⟩)) (fun _ => rfl) (fun rs wx hs hd => rfl) (fun rs wx r hs hd hl hk => by
                        have e54 : (r.tmps[54]?).getD undef = .slice (some ⟨bN, oN, none⟩) ns.length cN := hk 54 (by decide)
                        have e55 : (r.tmps[55]?).getD undef = .int .i64 k := hk 55 (by decide)
                        go_simp)
                    | 13, _ => exact Reg.Ob.guarded rfl rfl (fun rs => .string n) (fun _ => rfl) (fun rs wx hs hd => rfl) (fun rs wx r hs hd hl hk => by
                        have e56 : (r.tmps[56]?).getD undef = .pointer (some ⟨bN, oN + k, none⟩) := hk 56 (by decide)
                        have c1 : wx.cell? ⟨bN, oN + k, none⟩ = some (.string n) := (hs.below.cell (p := ⟨bN, oN + k, none⟩) hbN).trans yN0
                        go_simp)
                    | 14, _ => exact Reg.Ob.guarded rfl rfl (fun rs => .bool false) (fun _ => rfl) (fun rs wx hs hd => rfl) (fun rs wx r hs hd hl hk => by
                        have e52 : (r.tmps[52]?).getD undef = .string p := hk 52 (by decide)
                        have e57 : (r.tmps[57]?).getD undef = .string n := hk 57 (by decide)
                        go_simp)
                    | 15, _ => exact Reg.Ob.pure rfl rfl rfl (fun rs => .bool false) (fun _ => rfl) (fun rs wx r hs hd hl hk => by
                        have e46 : (r.tmps[46]?).getD undef = .bool true := hk 46 (by decide)
                        have e58 : (r.tmps[58]?).getD undef = .bool false := hk 58 (by decide)
                        go_simp)
                    | 16, _ => exact Reg.Ob.pure rfl rfl rfl (fun rs => .bool false) (fun _ => rfl) (fun rs wx r hs hd hl hk => by
                        have e59 : (r.tmps[59]?).getD undef = .bool false := hk 59 (by decide)
                        go_simp)
                    | 17, _ => exact Reg.Ob.guarded rfl rfl (fun rs => .pointer (some ⟨w.heap.size, 3, none⟩)) (fun _ => rfl) (fun rs wx hs hd => rfl) (fun rs wx r hs hd hl hk => by
                        have e1 : (r.tmps[1]?).getD undef = .pointer (some ⟨w.heap.size, 0, none⟩) := hk 1 (by decide)
                        go_simp)
                    | 18, _ => exact Reg.Ob.guarded rfl rfl (fun rs => .slice (some ⟨bN, oN, none⟩) ns.length cN) (fun _ => rfl) (fun rs wx hs hd => rfl) (fun rs wx r hs hd hl hk => by
                        have e61 : (r.tmps[61]?).getD undef = .pointer (some ⟨w.heap.size, 3, none⟩) := hk 61 (by decide)
                        have c1 : wx.cell? ⟨w.heap.size, 3, none⟩ = some (.slice (some ⟨bN, oN, none⟩) ns.length cN) := blk_cell hs.box 3
                        go_simp)
                    | 19, _ => exact Reg.Ob.guarded rfl rfl (fun rs => .int .i64 k) (fun _ => rfl) (fun rs wx hs hd => rfl) (fun rs wx r hs hd hl hk => by
                        have e6 : (r.tmps[6]?).getD undef = .int .i64 k := hk 6 (by decide)
                        go_simp)
                    | 20, _ => exact Reg.Ob.guarded rfl rfl (fun rs => .pointer (some ⟨bN, oN + k, none⟩)) (fun _ => rfl) (fun rs wx hs hd => rfl) (fun rs wx r hs hd hl hk => by
                        have e62 : (r.tmps[62]?).getD undef = .slice (some ⟨bN, oN, none⟩) ns.length cN := hk 62 (by decide)
                        have e63 : (r.tmps[63]?).getD undef = .int .i64 k := hk 63 (by decide)
                        go_simp)
                    | 21, _ => exact Reg.Ob.guarded rfl rfl (fun rs => .string n) (fun _ => rfl) (fun rs wx hs hd => rfl) (fun rs wx r hs hd hl hk => by
                        have e64 : (r.tmps[64]?).getD undef = .pointer (some ⟨bN, oN + k, none⟩) := hk 64 (by decide)
                        have c1 : wx.cell? ⟨bN, oN + k, none⟩ = some (.string n) := (hs.below.cell (p := ⟨bN, oN + k, none⟩) hbN).trans yN0
                        go_simp)
                    | 22, _ =>
                      refine Reg.Ob.geff rfl rfl (fun rs wx hs hd => rfl) ?_
                      intro rs wx r hs hd hn hl hk K hK
                      have e65 : (r.tmps[65]?).getD undef = .string n := hk 65 (by decide)
                      have HS := Lib.hid hs
                      have HN' := Lib.hid hn
                      have HL := Lib.hid hl
                      have HKK := Lib.hid hK
                      clear hs hn hd hl hk hK
                      go_simp
                      refine (HWD.out.1 wx).mono ?_
                      rintro e w5 ⟨rfl, hb5⟩
                      refine HKK.out _ _ ⟨HS.out.below.trans (hb5.mono HS.out.below.size), HS.out.old.trans (hb5.mono HS.out.old.size), blk_below HS.out.box hb5 (blk_lt HS.out.box), fun u hu => ?_⟩
                      have h2 : some (Value.int .i64 c) = some u := hu
                      cases h2
                      rfl
                    | 23, _ => exact Reg.Ob.guarded rfl rfl (fun rs => .bool true) (fun _ => rfl) (fun rs wx hs hd => rfl) (fun rs wx r hs hd hl hk => by
                        have e66 : (r.tmps[66]?).getD undef = ((rs 22).getD undef) := hk 66 (by decide)
                        obtain ⟨u22, hu22⟩ := hd 22 (by decide) (by decide)
                        obtain rfl := hs.num u22 hu22
                        rw [hu22] at e66
                        simp only [Option.getD_some] at e66
                        clear hu22
                        go_simp)
                    | 24, _ => exact Reg.Ob.pure rfl rfl rfl (fun rs => .bool true) (fun _ => rfl) (fun rs wx r hs hd hl hk => by
                        have e60 : (r.tmps[60]?).getD undef = .bool false := hk 60 (by decide)
                        have e67 : (r.tmps[67]?).getD undef = .bool true := hk 67 (by decide)
                        go_simp)
                    | 25, _ => exact Reg.Ob.pure rfl rfl rfl (fun rs => .bool true) (fun _ => rfl) (fun rs wx r hs hd hl hk => by
                        have e68 : (r.tmps[68]?).getD undef = .bool true := hk 68 (by decide)
                        go_simp)
                    | 26, _ => exact Reg.Ob.skip rfl rfl (fun _ => rfl) (fun rs wx hs hd => rfl)
                    | 27, _ => exact Reg.Ob.skip rfl rfl (fun _ => rfl) (fun rs wx hs hd => rfl)
                    | 28, _ => exact Reg.Ob.skip rfl rfl (fun _ => rfl) (fun rs wx hs hd => rfl)
                    | 29, _ => exact Reg.Ob.skip rfl rfl (fun _ => rfl) (fun rs wx hs hd => rfl)
                    | 30, _ => exact Reg.Ob.skip rfl rfl (fun _ => rfl) (fun rs wx hs hd => rfl)
                    | 31, _ => exact Reg.Ob.skip rfl rfl (fun _ => rfl) (fun rs wx hs hd => rfl)
                    | 32, _ => exact Reg.Ob.skip rfl rfl (fun _ => rfl) (fun rs wx hs hd => rfl)
                    | 33, _ => exact Reg.Ob.skip rfl rfl (fun _ => rfl) (fun rs wx hs hd => rfl)
                    | 34, _ => exact Reg.Ob.skip rfl rfl (fun _ => rfl) (fun rs wx hs hd => rfl)
                    | 35, _ => exact Reg.Ob.pure rfl rfl rfl (fun rs => .bool true) (fun _ => rfl) (fun rs wx r hs hd hl hk => by
                        have e69 : (r.tmps[69]?).getD undef = .bool true := hk 69 (by decide)
                        have e78 : (r.tmps[78]?).getD undef = undef := hk 78 (by decide)
                        go_simp)
                    | n + 36, h => exact absurd h (by simp <;> omega)
                  case h0 =>
                    exact ⟨HX.out.1.drew, below_drewNs wr 1, HX.out.2.1, fun u hu => (by cases hu)⟩
                  case hend =>
                    intro rs wx hs hd
                    obtain ⟨u22, hu22⟩ := hd 22 (by decide) (by decide)
                    obtain rfl := hs.num u22 hu22
                    simp only [List.foldl_cons, List.foldl_nil, Act.put, List.setIfInBounds_toArray, List.set_cons_zero, List.set_cons_succ]
                    rw [hu22]
                    simp only [Option.getD_some]
                    have HE := Lib.hid hs.below
                    clear hs hd hu22
                    go_wp2_with fail
                    go_ret2
                    exact ⟨HE.out, .inl ⟨HNN.out, rfl⟩⟩
          · have e : k = ns.length := by have := HK.out.1; omega
            subst e
            have t2 : ¬ (ns.length : Int) < (ns.length : Int) := by omega
            have hfin : RES = if (S.deflt sd).1 = 0 then some (S.deflt sd).2 else none := by rw [← HR.out.1, HX.out.2.2.2.1]; rfl
            by_cases hsd : sd = ⟨#[]⟩
            · subst hsd
              have hz0 : S.deflt ⟨#[]⟩ = (0, S) := by
                unfold RL.deflt
                rw [if_neg (by simp)]
                have := HX.out.2.2.2.2.2.1
                obtain ⟨a1, a2, a3, a4⟩ := S
                simp only at this
                rw [this]
              rw [hz0] at hfin
              have HF : Hid (RES = some S) := Lib.hid hfin
              clear hfin hz0 hlt
              go_wp2_with fail
              go_ret2
              exact ⟨HX.out.1, .inr ⟨S, HF.out, qb, rfl, HX.out.2.2.1⟩⟩
            · obtain ⟨n1, n2⟩ := ne_empty hsd
              have C := rdeflt_any HX.out.2.2.1 sd (by have := HX.out.2.2.2.2.1; have := HZ.out.2.1; omega)
              have hlo := HX.out.2.2.1.lo
              obtain ⟨d, hd⟩ : ∃ d, (S.deflt sd).1 = d := ⟨_, rfl⟩
              obtain ⟨X, hX⟩ : ∃ X, (S.deflt sd).2 = X := ⟨_, rfl⟩
              rw [hd, hX] at C hfin
              have HC := Lib.hid C
              have HF := Lib.hid (And.intro hfin hlo)
              clear C hd hX hfin hlt hlo hsd
              by_cases hd0 : d = 0
              · subst hd0
                go_wp2_with fail
                refine HC.out.mono ?_
                rintro e w5 ⟨rfl, hl5, hu5⟩
                have HE := Lib.hid (And.intro hl5 hu5)
                clear hl5 hu5
                go_wp2_with fail
                go_ret2
                exact ⟨HX.out.1.trans (HE.out.2.below (fun j hj => by rw [hj]; exact HF.out.2) HX.out.1.size), .inr ⟨X, qb, by rw [HF.out.1]; rfl, rfl, HE.out.1⟩⟩
              · have t6 : (d != 0) = true := by simpa using hd0
                have HD0 := Lib.hid hd0
                clear hd0
                go_wp2_with fail
                refine HC.out.mono ?_
                rintro e w5 ⟨rfl, hl5, hu5⟩
                have HE := Lib.hid (And.intro hl5 hu5)
                clear hl5 hu5
                go_wp2_with fail
                go_ret2
                exact ⟨HX.out.1.trans (HE.out.2.below (fun j hj => by rw [hj]; exact HF.out.2) HX.out.1.size), .inl ⟨by rw [HF.out.1, if_neg HD0.out], rfl⟩⟩
      · rw [if_pos (.inr (.inr hle))] at hRES
        subst hRES
        have t2 : ((tss.length : Int) != (ns.length : Int)) = true := by simp; omega
        clear hb hle
        go_enter Tryz.func34, Tryz.ntmps34
        go_wp2_with fail
        rw [HW.out]
        refine HC.out.mono ?_
        rintro e w2 ⟨rfl, hb2, hx2, hl2⟩
        obtain ⟨y0, y1, y2, y3, y4, _⟩ := shCells hx2
        have HB := Lib.hid hb2
        have hz2 : w.heap.size < w2.heap.size := blk_lt hx2
        clear hb2 hx2 hl2 HC HW
        go_wp2_with fail
        go_ret2
        exact ⟨HB.out, .inl ⟨trivial, rfl⟩⟩
end Go.Proofs.YthbjcihdlhkboaaGreatDoor
