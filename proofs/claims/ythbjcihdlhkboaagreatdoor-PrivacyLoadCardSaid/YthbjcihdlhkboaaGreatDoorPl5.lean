/- PrivacyOwn's walk: for every shelf and all texts it answers true. -/
import Derived.Test.YthbjcihdlhkboaaGreatDoorPl1
import Derived.Test.YthbjcihdlhkboaaGreatDoorPxa
import Derived.Test.YthbjcihdlhkboaaGreatDoorPl3
namespace Go.Proofs.YthbjcihdlhkboaaGreatDoor
set_option linter.unusedSimpArgs false
set_option linter.unusedVariables false
open Go.RowKit Go.Maps Go.Shelf Go.Lib

/-- Places for texts, whatever they hold. -/
def StrSlots (w : World) (B : Nat) (v : Value) (n : Nat) : Prop := ∃ xs, Seq w B 9 1 v n xs
theorem StrSlots.set {w : World} {B n : Nat} {v : Value} (h : StrSlots w B v n) {b : Nat} {cs : Array Value} (hb : w.heap[b]? = some (.cells cs 9 (0, 0))) (j : Nat) (u : Value) : StrSlots (w.setCell ⟨b, j, none⟩ u) B v n := by
  obtain ⟨xs, hs⟩ := h
  by_cases e : v.ownBlock = some b
  · rcases hs.2 with ⟨rfl, _⟩ | ⟨g, off, cap, cur, rfl, h1, h2, h3, h4, h5, h6⟩
    · cases e
    · simp [Value.ownBlock] at e
      subst e
      rw [hb] at h2
      cases h2
      refine ⟨((cs.setIfInBounds j u).toList.drop off).take (n * 1), ?_, .inr ⟨g, off, cap, _, rfl, h1, blk_set_same hb j u, h3, h4, by simpa using h5, rfl⟩⟩
      simp
      omega
  · exact ⟨xs, hs.setCell u e⟩
theorem StrSlots.other {w : World} {B n : Nat} {v : Value} (h : StrSlots w B v n) {b : Nat} {cs : Array Value} {T : TypeId} (hb : w.heap[b]? = some (.cells cs T)) (hT : T ≠ 9) (j : Nat) (u : Value) : StrSlots (w.setCell ⟨b, j, none⟩ u) B v n := by
  obtain ⟨xs, hs⟩ := h
  exact ⟨xs, hs.set_ty hb hT j u⟩
theorem StrSlots.below {w w' : World} {B n : Nat} {v : Value} (h : StrSlots w B v n) (hb : Below w.heap.size w w') : StrSlots w' B v n := by
  obtain ⟨xs, hs⟩ := h
  exact ⟨xs, hs.below hb (fun k hk => (hs.lt k hk).2)⟩
theorem StrSlots.at {w : World} {B n c k : Nat} {A : Option Addr} (h : StrSlots w B (.slice A n c) n) (hk : k < n) : ∃ b off cs, A = some ⟨b, off, none⟩ ∧ b < w.heap.size ∧ B ≤ b ∧ w.frozen? ⟨b, off + k, none⟩ = false ∧ (∃ v, w.cell? ⟨b, off + k, none⟩ = some v) ∧ w.heap[b]? = some (.cells cs 9 (0, 0)) := by
  obtain ⟨xs, hs⟩ := h
  obtain ⟨b, off, rfl, h1, h2, h3, h4⟩ := hs.one (j := k) (List.getElem?_eq_getElem (by have := hs.1; omega))
  obtain ⟨cs, hc⟩ := hs.block b rfl
  exact ⟨b, off, cs, rfl, h1, h2, h4, ⟨_, h3⟩, hc⟩

/-- Told of a spoiling. -/
structure SpInv (w0 w wx : World) (B : Nat) (src : Obj) (vn vt : Value) (n : Nat) (es : List (List ByteArray × Value)) : Prop where
  upd : Upd w.heap.size (fun k => B ≤ k ∧ k < w0.heap.size) w wx
  box : wx.heap[w.heap.size]? = some src
  names : StrSlots wx B vn n
  rows : Seq wx B 32 1 vt es.length (es.map (·.2))
  each : ∀ p ∈ es, StrSlots wx B p.2 p.1.length
theorem SpInv.set {w0 w wx : World} {B n b : Nat} {vn vt : Value} {es : List (List ByteArray × Value)} {cs sc : Array Value} (h : SpInv w0 w wx B (.cells sc 38) vn vt n es) (hb : wx.heap[b]? = some (.cells cs 9 (0, 0))) (h1 : B ≤ b) (h2 : b < w0.heap.size) (j : Nat) (u : Value) :
    SpInv w0 w (wx.setCell ⟨b, j, none⟩ u) B (.cells sc 38) vn vt n es where
  upd := h.upd.setCell (.inl ⟨h1, h2⟩) _
  box := blk_set_other h.box _ (by intro e; have := h.box; rw [e, hb] at this; simp at this)
  names := h.names.set hb j u
  rows := h.rows.set_ty hb (by decide) j u
  each := fun p hp => (h.each p hp).set hb j u

set_option maxRecDepth 100000 in
set_option maxHeartbeats 16000000 in
theorem spoil_any (w0 w : World) (B : Nat) (a b : Int) (d : ByteArray) (vn vt : Value) (ns : List ByteArray) (tss : List (List ByteArray)) (h1 : TxtAt w0 B vn ns) (h2 : TabAt w0 B vt tss) (hb : Below w0.heap.size w0 w) :
    Calls Tryz.prog 35 #[.agg #[.int .i64 a, .int .i64 b, .string d, vn, vt]] w fun e w' => e = .returned (.tuple #[]) ∧ Upd w.heap.size (fun k => B ≤ k ∧ k < w0.heap.size) w w' := by
  obtain ⟨AN, cN, rfl⟩ := h1.shape
  obtain ⟨AT, cT, rfl⟩ := h2.shape
  obtain ⟨es, e1, e2, e3⟩ := h2
  have hel : es.length = tss.length := by rw [← e1, List.length_map]
  obtain ⟨SC, hSC⟩ : ∃ s : Array Value, #[.int .i64 a, .int .i64 b, .string d, .slice AN ns.length cN, .slice AT tss.length cT] = s := ⟨_, rfl⟩
  have hlo : (∀ q, (Value.slice AN ns.length cN).ownBlock = some q → q < w0.heap.size) ∧ ∀ p ∈ es, ∀ q, p.2.ownBlock = some q → q < w0.heap.size := ⟨fun q hq => (h1.lt q hq).2, fun p hp q hq => ((e3 p hp).lt q hq).2⟩
  have hnl : ns.length ≤ maxLen := h1.len_le
  have htl : tss.length ≤ maxLen := e2.len_le
  have hxl : ∀ p ∈ es, p.1.length ≤ maxLen := fun p hp => (e3 p hp).len_le
  have hst : SpInv w0 w (w.alloc (.cells SC 38)) B (.cells SC 38) (.slice AN ns.length cN) (.slice AT tss.length cT) ns.length es := by
    refine ⟨(Upd.refl _ _ _).alloc (Nat.le_refl _) _, blk_new _ _, ⟨_, (h1.below hb (fun k hk => (h1.lt k hk).2)).alloc _⟩, ?_, fun p hp => ⟨_, ((e3 p hp).below hb (fun k hk => ((e3 p hp).lt k hk).2)).alloc _⟩⟩
    rw [hel]
    exact (e2.below hb (fun k hk => (e2.lt k hk).2)).alloc _
  have HO := Lib.hid (And.intro hlo (And.intro hnl (And.intro htl hxl)))
  have HE := Lib.hid (And.intro e1 hel)
  have HST := Lib.hid hst
  have HSC := Lib.hid hSC
  have hn9 : (ns.length : Int) ≤ 9223372036854775807 := by unfold maxLen at hnl; omega
  have ht9 : (tss.length : Int) ≤ 9223372036854775807 := by unfold maxLen at htl; omega
  clear h1 e1 e2 e3 hel hlo hnl htl hxl hst hb
  go_enter Tryz.func35, Tryz.ntmps35
  go_wp2_with fail
  rw [hSC]
  clear hSC
  go_loopg [2] ns.length (fun g s2 wr => ∃ k : Nat, k ≤ ns.length ∧ g = ns.length - k ∧ s2 = .int .i64 k ∧ SpInv w0 w wr B (.cells SC 38) (.slice AN ns.length cN) (.slice AT tss.length cT) ns.length es)
  case atStart => exact ⟨0, Nat.zero_le _, rfl, rfl, HST.out⟩
  case round =>
    clear HST
    obtain ⟨k, hk, hgk, rfl, hs⟩ := hrel
    have hbx := hs.box
    rw [← HSC.out] at hbx
    obtain ⟨y0, y1, y2, y3, y4, _⟩ := shCells hbx
    have hzb : w.heap.size < wr.heap.size := blk_lt hbx
    have HS := Lib.hid hs
    have HK := Lib.hid (And.intro hk hgk)
    clear hs hbx hk hgk
    by_cases hlt : k < ns.length
    · have t2 : (k : Int) < (ns.length : Int) := by omega
      have t4 : (0 : Int) ≤ (k : Int) := by omega
      have hw : IntKind.i64.wrap ((k : Int) + 1) = (k : Int) + 1 := IntWalk.i64_in _ (by have := HO.out.2.1; unfold maxLen at this; omega)
      obtain ⟨bN, oN, cs, rfl, hbN, hBN, hfz, ⟨v, hcv⟩, hcs⟩ := HS.out.names.at hlt
      have HC := Lib.hid (And.intro hcs (And.intro hBN hlt))
      clear hcs hBN hlt
      go_wp2_with fail
      go_roundg (ns.length - (k + 1))
      case measure => have := HK.out.2; have := HC.out.2.2; omega
      case rel => exact ⟨k + 1, by have := HC.out.2.2; omega, rfl, by go_num, HS.out.set HC.out.1 HC.out.2.1 (HO.out.1.1 bN rfl) _ _⟩
    · have t2 : ¬ (k : Int) < (ns.length : Int) := by omega
      clear hlt
      go_wp2_with fail
      clear y0 y1 y2 y3 y4
      have HST := HS
      clear HS
      obtain ⟨wb, rfl⟩ : ∃ x : World, x = wr := ⟨_, rfl⟩
      go_loopg [3] tss.length (fun g s3 wr => ∃ k : Nat, k ≤ tss.length ∧ g = tss.length - k ∧ s3 = .int .i64 k ∧ SpInv w0 w wr B (.cells SC 38) (.slice AN ns.length cN) (.slice AT tss.length cT) ns.length es)
      case atStart => exact ⟨0, Nat.zero_le _, rfl, rfl, HST.out⟩
      case round =>
        clear HST HK
        obtain ⟨k, hk, hgk, rfl, hs⟩ := hrel
        have hbx := hs.box
        rw [← HSC.out] at hbx
        obtain ⟨y0, y1, y2, y3, y4, _⟩ := shCells hbx
        have hzb : w.heap.size < wr.heap.size := blk_lt hbx
        have HS := Lib.hid hs
        have HK := Lib.hid (And.intro hk hgk)
        clear hs hbx hk hgk
        by_cases hlt : k < tss.length
        · have t2 : (k : Int) < (tss.length : Int) := by omega
          have t4 : (0 : Int) ≤ (k : Int) := by omega
          have hw : IntKind.i64.wrap ((k : Int) + 1) = (k : Int) + 1 := IntWalk.i64_in _ (by have := HO.out.2.2.1; unfold maxLen at this; omega)
          obtain ⟨p, hp⟩ : ∃ p, es[k]? = some p := ⟨_, List.getElem?_eq_getElem (by rw [HE.out.2]; exact hlt)⟩
          have hpm := List.mem_of_getElem? hp
          obtain ⟨xs0, hx0⟩ := HS.out.each p hpm
          obtain ⟨AX, cX, hpx⟩ := hx0.shape
          have HP := Lib.hid (And.intro hp (And.intro hpm (And.intro hpx hlt)))
          have hm9 : (p.1.length : Int) ≤ 9223372036854775807 := by have := HO.out.2.2.2 p hpm; unfold maxLen at this; omega
          clear hp hpm hx0 hpx hlt
          obtain ⟨m, hm⟩ : ∃ m, p.1.length = m := ⟨_, rfl⟩
          have HM := Lib.hid hm
          rw [hm] at hm9
          clear hm
          go_wp2_with fail
          clear y0 y1 y2 y3 y4
          have HST := HS
          clear HS
          obtain ⟨wb, rfl⟩ : ∃ x : World, x = wr := ⟨_, rfl⟩
          go_loopg [4] m (fun g s4 wr => ∃ j : Nat, j ≤ m ∧ g = m - j ∧ s4 = .int .i64 j ∧ SpInv w0 w wr B (.cells SC 38) (.slice AN ns.length cN) (.slice AT tss.length cT) ns.length es)
          case atStart => exact ⟨0, Nat.zero_le _, rfl, rfl, HST.out⟩
          case round =>
            clear HST
            obtain ⟨j, hj, hgj, rfl, hs⟩ := hrel
            have hbx := hs.box
            rw [← HSC.out] at hbx
            obtain ⟨y0, y1, y2, y3, y4, _⟩ := shCells hbx
            have hzb : w.heap.size < wr.heap.size := blk_lt hbx
            have hrow : ∃ bT oT, AT = some ⟨bT, oT, none⟩ ∧ bT < wr.heap.size ∧ wr.cell? ⟨bT, oT + k, none⟩ = some (.slice AX m cX) := by
              have hr := hs.rows
              rw [HE.out.2] at hr
              obtain ⟨bT, oT, e1, e2, _, e3, _⟩ := hr.one (j := k) (v := p.2) (by simp [HP.out.1])
              refine ⟨bT, oT, e1, e2, ?_⟩
              rw [e3, HP.out.2.2.1, HM.out]
            obtain ⟨bT, oT, rfl, zT, yT⟩ := hrow
            have HS := Lib.hid hs
            have HJ := Lib.hid (And.intro hj hgj)
            clear hs hbx hj hgj
            by_cases hlt : j < m
            · have s2 : (j : Int) < (m : Int) := by omega
              have s4 : (0 : Int) ≤ (j : Int) := by omega
              have hwj : IntKind.i64.wrap ((j : Int) + 1) = (j : Int) + 1 := IntWalk.i64_in _ (by omega)
              have hslot : StrSlots wr B (.slice AX m cX) m := by
                have := HS.out.each p HP.out.2.1
                rw [HP.out.2.2.1, HM.out] at this
                exact this
              obtain ⟨bX, oX, cs, rfl, hbX, hBX, hfz, ⟨v, hcv⟩, hcs⟩ := hslot.at hlt
              have hbX0 : bX < w0.heap.size := HO.out.1.2 p HP.out.2.1 bX (by rw [HP.out.2.2.1]; rfl)
              have HC := Lib.hid (And.intro hcs (And.intro hBX (And.intro hlt hbX0)))
              clear hcs hBX hlt hslot hbX0
              go_wp2_with fail
              go_roundg (m - (j + 1))
              case measure => have := HJ.out.2; have := HC.out.2.2.1; omega
              case rel => exact ⟨j + 1, by have := HC.out.2.2.1; omega, rfl, by go_num, HS.out.set HC.out.1 HC.out.2.1 HC.out.2.2.2 _ _⟩
            · have s2 : ¬ (j : Int) < (m : Int) := by omega
              clear hlt
              go_wp2_with fail
              go_roundg (tss.length - (k + 1))
              case measure => have := HK.out.2; have := HP.out.2.2.2; omega
              case rel => exact ⟨k + 1, by have := HP.out.2.2.2; omega, rfl, by go_num, HS.out⟩
        · have t2 : ¬ (k : Int) < (tss.length : Int) := by omega
          clear hlt
          go_wp2_with fail
          go_end0
          exact ⟨rfl, HS.out.upd⟩
end Go.Proofs.YthbjcihdlhkboaaGreatDoor

namespace Go.Proofs.YthbjcihdlhkboaaGreatDoor
set_option linter.unusedSimpArgs false
set_option linter.unusedVariables false
open Go.RowKit Go.Maps Go.Shelf Go.Lib

/-- A shelf, cut. -/
def ShD.cut (s : ShD) : ShD := ⟨s.lists, s.rules, s.deflt, cutAll s.names 20 80, cutTab s.texts 20⟩
theorem ShD.cut_ok (s : ShD) : s.cut.names.length ≤ 20 ∧ (∀ n ∈ s.cut.names, n.size ≤ 80) ∧ s.cut.texts.length ≤ 20 ∧ ∀ ts ∈ s.cut.texts, ts.length ≤ 20 ∧ ∀ t ∈ ts, t.size ≤ 120 := by
  refine ⟨?_, fun n hn => cutAll_size hn, ?_, fun ts hts => ?_⟩
  · show (cutAll _ _ _).length ≤ 20; rw [cutAll_length]; omega
  · show (cutTab _ _).length ≤ 20; unfold cutTab; rw [List.length_map, List.length_take]; omega
  · obtain ⟨t0, _, rfl⟩ := List.mem_map.1 hts
    exact ⟨by rw [cutAll_length]; omega, fun t ht => cutAll_size ht⟩

theorem upto_rows {a b : Int} (ha : 0 ≤ a) {ns : List ByteArray} {tss : List (List ByteArray)} (hn : ∀ n ∈ ns, n.size ≤ 80) (ht : ∀ ts ∈ tss, ts.length ≤ 1000 ∧ ∀ t ∈ ts, t.size ≤ 1000) : ∀ {k : Nat} {S : RL}, uptoR (RL.new a b) ns tss k = some S → RowsOk S
  | 0, S, h => by cases h; intro r hr; cases hr
  | k + 1, S, h => by
    simp only [uptoR] at h
    split at h
    · rename_i S0 n ts h1 h2 h3
      obtain rfl := stepR_keeps h
      have hs : Srt.Sorted Row.name S0.rows := by
        rcases upto_same (b := b) ha ns tss k with ⟨_, e⟩ | ⟨L, S', _, e, h3, _⟩
        · rw [h1] at e; cases e
        · rw [h1] at e; cases e; exact h3.twin.sorted
      exact ((upto_rows ha hn ht h1).set hs (hn n (List.mem_of_getElem? h2)) (ht ts (List.mem_of_getElem? h3)).1 (ht ts (List.mem_of_getElem? h3)).2).1
    · cases h
theorem deflt_rows (S : RL) (d : ByteArray) : (S.deflt d).2.rows = S.rows := by unfold RL.deflt; split <;> rfl
theorem load_both (s : ShD) (hn : ∀ n ∈ s.names, n.size ≤ 80) (ht : ∀ ts ∈ s.texts, ts.length ≤ 1000 ∧ ∀ t ∈ ts, t.size ≤ 1000) :
    (LS.load s = none ∧ RL.load s = none) ∨ ∃ L S, LS.load s = some L ∧ RL.load s = some S ∧ Twin L S ∧ RowsOk S ∧ S.rows.length = s.names.length := by
  rcases load_same s with h | ⟨L, S, h1, h2, h3⟩
  · exact .inl h
  · refine .inr ⟨L, S, h1, h2, h3, ?_⟩
    unfold RL.load at h2
    split at h2
    · cases h2
    · rename_i hb
      have ha : 0 ≤ s.lists := by have := (not_or.1 hb).1; unfold badB at this; omega
      unfold RL.fin at h2
      split at h2
      · cases h2
      · rename_i S0 hu
        split at h2
        · cases h2
          exact ⟨fun r hr => upto_rows ha hn ht hu r (by rwa [deflt_rows] at hr), by rw [deflt_rows]; exact uptoR_len ha hu⟩
        · cases h2

theorem LAt.hi {w w' : World} {B lb mb n : Nat} {D : DataW Value} {L : LS} (h : LAt w B lb mb n D L) {C : Nat} {ks : Nat → Prop} (hu : Upd C ks w w') (hC : w.heap.size ≤ C) (hk : ∀ k, ks k → k < B) : LAt w' B lb mb n D L :=
  h.keep (hu.block lb (by have := h.lt.1; omega) (fun e => by have := hk _ e; have := h.lo.1; omega)) (hu.block mb (by have := h.lt.2; omega) (fun e => by have := hk _ e; have := h.lo.2; omega))
    (fun k cur hc hB => hu.block k (by have := blk_lt hc; omega) (fun e => by have := hk _ e; omega))
theorem RfAt.hi {w w' : World} {B qb : Nat} {S : RL} (h : RfAt w B qb S) {C : Nat} {ks : Nat → Prop} (hu : Upd C ks w w') (hC : w.heap.size ≤ C) (hk : ∀ k, ks k → k < B) : RfAt w' B qb S := by
  obtain ⟨vn, vt, vr, rows, hR⟩ := h
  exact ⟨vn, vt, vr, rows, hR.keep fun k cs T hc _ hB => hu.block k (by have := blk_lt hc; omega) (fun e => by have := hk _ e; omega)⟩
theorem RfAv.wrote {w w' : World} {B qb x : Nat} {S : RL} (h : RfAv w B qb S x) {cs : Array Value} (hx : w.heap[x]? = some (.cells cs 9 (0, 0))) {C : Nat} (hu : Upd C (fun k => k = x) w w') (hC : w.heap.size ≤ C) : RfAt w' B qb S := by
  obtain ⟨vn, vt, vr, rows, hR, ha⟩ := h
  have far : ∀ {k : Nat} {cur : Array Value} {T : TypeId} {fz : Nat × Nat}, w.heap[k]? = some (.cells cur T fz) → T ≠ 9 → w'.heap[k]? = w.heap[k]? := fun {k cur T fz} hc hT => hu.block k (by have := blk_lt hc; omega) (by rintro rfl; rw [hx] at hc; simp at hc; exact hT hc.2.1.symm)
  have seq : ∀ {e : TypeId} {sz n : Nat} {v : Value} {xs : List Value}, Seq w B e sz v n xs → e ≠ 9 → Seq w' B e sz v n xs := fun {e sz n v xs} hs he => hs.kept fun k hk => by
    obtain ⟨cur, hc⟩ := hs.block k hk
    exact far hc he
  have str : ∀ {sz n : Nat} {v : Value} {xs : List Value}, Seq w B 9 sz v n xs → v.ownBlock ≠ some x → Seq w' B 9 sz v n xs := fun {sz n v xs} hs hv => hs.kept fun k hk => hu.block k (by have := (hs.lt k hk).2; omega) (by rintro rfl; exact hv hk)
  exact ⟨vn, vt, vr, rows, {
    eq := hR.eq
    cells := (far hR.cells (by decide)).trans hR.cells
    names := str hR.names ha.1
    texts := seq hR.texts (by decide)
    rules := seq hR.rules (by decide)
    each := fun r hr => ⟨str (hR.each r hr).1 (ha.2 r hr), seq (hR.each r hr).2 (by decide)⟩
    lo := hR.lo }⟩
theorem LAt.wrote {w w' : World} {B lb mb n x : Nat} {D : DataW Value} {L : LS} (h : LAt w B lb mb n D L) {cs : Array Value} (hx : w.heap[x]? = some (.cells cs 9 (0, 0))) {C : Nat} (hu : Upd C (fun k => k = x) w w') (hC : w.heap.size ≤ C) : LAt w' B lb mb n D L :=
  h.upd hu hC fun k hk => by
    subst hk
    have := h.cells_ne hx (by decide)
    exact ⟨this.1, this.2, fun cur hc => by rw [hx] at hc; simp at hc⟩

theorem RfAv.progd {w w' : World} {B lb mb n qb x : Nat} {D : DataW Value} {L : LS} {S : RL} (hr : RfAv w B qb S x) (h : LAt w B lb mb n D L) (hu : Upd w.heap.size (fun k => k = lb ∨ k = mb) w w') : RfAv w' B qb S x := by
  obtain ⟨vn, vt, vr, rows, hR, ha⟩ := hr
  refine ⟨vn, vt, vr, rows, hR.upd hu (Nat.le_refl _) fun k cs T hk hc => ?_, ha⟩
  rcases hk with rfl | rfl
  · rw [h.cells] at hc
    simp at hc
    rw [← hc.2]
    decide
  · obtain ⟨es, clock, hb, _⟩ := h.own
    rw [hb] at hc
    cases hc
theorem txt_progd {w w' : World} {B B' lb mb n : Nat} {D : DataW Value} {L : LS} {v : Value} {ts : List ByteArray} (h : TxtAt w B' v ts) (hl : LAt w B lb mb n D L) (hu : Upd w.heap.size (fun k => k = lb ∨ k = mb) w w') : TxtAt w' B' v ts :=
  Seq.kept h fun k hk => by
    obtain ⟨cs, hc⟩ := Seq.block h k hk
    have := hl.cells_ne hc (by decide)
    exact hu.block k (blk_lt hc) (by rintro (e | e); exact this.1 e; exact this.2 e)

/-- Told of the law's first test. -/
structure OwSt (w w0 wx : World) (W3 : World) (B3 : Nat) (s1 s3 : Obj) (a b : Int) (d : ByteArray) (c : ShD) (rs : Nat → Option Value) : Prop where
  below : Below w0.heap.size w0 wx
  old : Below W3.heap.size W3 wx
  b1 : wx.heap[w.heap.size]? = some s1
  b3 : wx.heap[B3]? = some s3
  tw : ∀ u, rs 2 = some u → ∃ vn vt B, u = .agg #[.int .i64 a, .int .i64 b, .string d, vn, vt] ∧ TxtAt wx B vn c.names ∧ TabAt wx B vt c.texts
  sm : ∀ u, rs 3 = some u → u = .bool true
  wk : ∀ u, rs 6 = some u → u = .bool true

set_option maxRecDepth 100000 in
set_option maxHeartbeats 16000000 in
theorem privown_any (w : World) (hT : Tabs w) (s : ShD) (vn vt v1 : Value) (texts : List ByteArray) (hn : Strs w vn s.names) (ht : TabS w vt s.texts) (hd : s.deflt.size ≤ maxLen) (hg : Strs w v1 texts) :
    Calls Tryz.prog 7 #[.agg #[.int .i64 s.lists, .int .i64 s.rules, .string s.deflt, vn, vt], v1] w fun e w' => e = .returned (.bool true) ∧ Below w.heap.size w w' := by
  obtain ⟨c, hc⟩ : ∃ c, s.cut = c := ⟨_, rfl⟩
  have hck := s.cut_ok
  have LB := load_both s.cut (by exact hck.2.1) (fun ts h => ⟨by have := (hck.2.2.2 ts h).1; omega, fun t ht => by have := (hck.2.2.2 ts h).2 t ht; omega⟩)
  have CT := fun W (hb : Below w.heap.size w W) => twin17_any W s.lists s.rules s.deflt vn vt s.names s.texts (hn.below hb) (ht.below hb)
  have CL := fun W vn' vt' (h1 : Strs W vn' s.cut.names) (h2 : TabS W vt' s.cut.texts) (hb : Below w.heap.size w W) => load17_any W s.cut vn' vt' h1 h2 (hT.later hb) (fun n h => by have := hck.2.1 n h; omega) (by have := hck.1; omega) (fun ts h => ⟨by have := (hck.2.2.2 ts h).1; omega, fun t ht => by have := (hck.2.2.2 ts h).2 t ht; omega⟩) (by exact hd)
  have CR := fun W vn' vt' (h1 : Strs W vn' s.cut.names) (h2 : TabS W vt' s.cut.texts) => rload17_any W s.cut vn' vt' h1 h2 (fun n h => by have := hck.2.1 n h; omega) (by have := hck.1; omega) (fun ts h => ⟨by have := (hck.2.2.2 ts h).1; omega, fun t ht => by have := (hck.2.2.2 ts h).2 t ht; omega⟩)
  have e1 : cutAll s.names 20 80 = c.names := by rw [← hc]; rfl
  have e2 : cutTab s.texts 20 = c.texts := by rw [← hc]; rfl
  have e3 : s.cut.lists = s.lists ∧ s.cut.rules = s.rules ∧ s.cut.deflt = s.deflt := ⟨rfl, rfl, rfl⟩
  rw [e1, e2] at CT
  rw [e3.1, e3.2.1, e3.2.2] at CL CR
  rw [hc] at LB CL CR hck
  obtain ⟨a, ha⟩ : ∃ a, s.lists = a := ⟨_, rfl⟩
  obtain ⟨b, hb⟩ : ∃ b, s.rules = b := ⟨_, rfl⟩
  obtain ⟨d, hdd⟩ : ∃ d, s.deflt = d := ⟨_, rfl⟩
  rw [ha, hb, hdd] at CT CL CR ⊢
  obtain ⟨AN, cN, rfl⟩ : ∃ A c, vn = .slice A s.names.length c := let ⟨⟨A, cap, h, _⟩, _⟩ := hn; ⟨A, cap, h⟩
  obtain ⟨AT, cT, rfl, _⟩ := id ht
  obtain ⟨A1, c1, rfl⟩ : ∃ A c, v1 = .slice A texts.length c := let ⟨⟨A, cap, h, _⟩, _⟩ := hg; ⟨A, cap, h⟩
  have hcl := And.intro hck.2.2.1 hck.1
  have HCT := Lib.hid CT
  have HCL := Lib.hid CL
  have HCR := Lib.hid CR
  have HLB := Lib.hid LB
  have HG := Lib.hid (And.intro hg hT)
  have HCK := Lib.hid hcl
  obtain ⟨nn, hnn⟩ : ∃ n, s.names.length = n := ⟨_, rfl⟩
  obtain ⟨nt, hnt⟩ : ∃ n, s.texts.length = n := ⟨_, rfl⟩
  rw [hnn, hnt] at HCT ⊢
  clear CT CL CR LB hck hn ht hd hg hT hc e1 e2 e3 ha hb hdd hcl hnn hnt
  obtain ⟨W1, hW1⟩ : ∃ W, w.alloc (.cells #[.int .i64 a, .int .i64 b, .string d, .slice AN nn cN, .slice AT nt cT] 38) = W := ⟨_, rfl⟩
  have hb1 : Below w.heap.size w W1 := by rw [← hW1]; exact (Below.refl _ _).alloc (Nat.le_refl _) _
  have hx1 : W1.heap[w.heap.size]? = some (shC a b d (.slice AN nn cN) (.slice AT nt cT)) := by rw [← hW1]; exact blk_new _ _
  have HW1 := Lib.hid (And.intro hb1 (And.intro hx1 hW1))
  clear hb1 hx1 hW1
  go_enter Tryz.func7, Tryz.ntmps7
  go_wp2_with fail
  rw [HW1.out.2.2]
  refine (HCT.out W1 HW1.out.1).mono ?_
  rintro e w2 ⟨vn2, vt2, rfl, hn2, ht2, hb2⟩
  obtain ⟨A2, c2, rfl⟩ := hn2.shape
  obtain ⟨A3, c3, rfl⟩ := ht2.shape
  obtain ⟨W3, hW3⟩ : ∃ W, w2.alloc (shC a b d (.slice A2 c.names.length c2) (.slice A3 c.texts.length c3)) = W := ⟨_, rfl⟩
  have hbw2 : Below w.heap.size w w2 := HW1.out.1.trans (hb2.mono HW1.out.1.size)
  have hb3 : Below w.heap.size w W3 := by rw [← hW3]; exact hbw2.alloc hbw2.size _
  have hx3 : W3.heap[w2.heap.size]? = some (shC a b d (.slice A2 c.names.length c2) (.slice A3 c.texts.length c3)) := by rw [← hW3]; exact blk_new _ _
  have hx1 : W3.heap[w.heap.size]? = some (shC a b d (.slice AN nn cN) (.slice AT nt cT)) := by rw [← hW3]; exact blk_alloc (blk_below HW1.out.2.1 hb2 (blk_lt HW1.out.2.1)) _
  have hb23 : Below w2.heap.size w2 W3 := by rw [← hW3]; exact (Below.refl _ _).alloc (Nat.le_refl _) _
  have hn3 := hn2.below hb23 (fun k hk => (hn2.lt k hk).2)
  have ht3 := TabQ.below ht2 hb23
  have HM := Lib.hid (And.intro hn2 (And.intro ht2 (And.intro hb23 (And.intro hn3 (And.intro ht3 (And.intro hb3 (And.intro hx1 (And.intro hx3 hW3))))))))
  obtain ⟨y0, y1, y2, y3, y4, _⟩ := shCells HW1.out.2.1
  clear hn2 ht2 hb2 hbw2 hb23 hn3 ht3 hb3 hx1 hx3 hW3
  go_wp2_with fail
  rw [HM.out.2.2.2.2.2.2.2.2]
  clear y0 y1 y2 y3 y4
  refine (HCL.out W3 _ _ (txt_strs HM.out.2.2.2.1) (TabQ.tabS HM.out.2.2.2.2.1) HM.out.2.2.2.2.2.1).mono ?_
  rintro e w4 ⟨hb4, hres⟩
  rcases HLB.out with ⟨n1, n2⟩ | ⟨L, S, s1, s2, htw, hrows, hlen⟩
  · rcases hres with ⟨_, rfl⟩ | ⟨L, lb, mb, n, D, e0, _⟩
    · have hbw4 : Below w.heap.size w w4 := HM.out.2.2.2.2.2.1.trans (hb4.mono HM.out.2.2.2.2.2.1.size)
      have x1 := blk_below HM.out.2.2.2.2.2.2.1 hb4 (blk_lt HM.out.2.2.2.2.2.2.1)
      have x3 := blk_below HM.out.2.2.2.2.2.2.2.1 hb4 (blk_lt HM.out.2.2.2.2.2.2.2.1)
      obtain ⟨y0, y1, y2, y3, y4, _⟩ := shCells x1
      have z1 : w.heap.size < w4.heap.size := blk_lt x1
      have H4 := Lib.hid (And.intro hbw4 (And.intro x1 (And.intro x3 (And.intro hb4 trivial))))
      clear hbw4 x1 x3 hb4
      go_wp2_with fail
      clear y0 y1 y2 y3 y4
      refine (HCT.out w4 H4.out.1).mono ?_
      rintro e w5 ⟨vn5, vt5, rfl, hn5, ht5, hb5⟩
      have H5 := Lib.hid (And.intro hn5 (And.intro ht5 hb5))
      clear hn5 ht5 hb5
      go_wp2_with fail
      refine (HCR.out w5 _ _ (txt_strs H5.out.1) (TabQ.tabS H5.out.2.1)).mono ?_
      rintro e w6 ⟨hb6, hres6⟩

      rcases hres6 with ⟨_, rfl⟩ | ⟨S, qb, e0, _⟩
      · have hb46 : Below w4.heap.size w4 w6 := H5.out.2.2.trans (hb6.mono H5.out.2.2.size)
        have x1 := blk_below H4.out.2.1 hb46 (blk_lt H4.out.2.1)
        have x3 := blk_below H4.out.2.2.1 hb46 (blk_lt H4.out.2.2.1)
        have hold : Below W3.heap.size W3 w6 := H4.out.2.2.2.1.trans (hb46.mono H4.out.2.2.2.1.size)
        have hbw6 : Below w.heap.size w w6 := H4.out.1.trans (hb46.mono H4.out.1.size)
        have H6 := Lib.hid (And.intro hb6 (And.intro hb46 (And.intro x1 (And.intro x3 (And.intro hold hbw6)))))
        clear hb6 hb46 x1 x3 hold hbw6
        go_wp2_with fail
        refine Reg.wp_region_puts (A := [[], [], [1], [0, 2, 1], [3, 0, 2, 1], [4, 3, 0, 2, 1], [5, 4, 3, 0, 2, 1], [6, 5, 4, 3, 0, 2, 1], [5, 4, 3, 0, 2, 1, 7, 6]]) (effs := [2, 3, 6]) (N := 71)
          (val := fun i r => match i with | 0 => .agg #[.int .i64 a, .int .i64 b, .string d, .slice A2 c.names.length c2, .slice A3 c.texts.length c3] | 1 => .agg #[.int .i64 a, .int .i64 b, .string d, .slice AN nn cN, .slice AT nt cT] | 4 => .bool false | 5 => .bool false | 7 => .bool false | 8 => .bool false | _ => undef)
          (Stage := fun rs wx => OwSt w w6 wx W3 w2.heap.size (shC a b d (.slice AN nn cN) (.slice AT nt cT)) (shC a b d (.slice A2 c.names.length c2) (.slice A3 c.texts.length c3)) a b d c rs)
          (fun rs => [(some 25, .agg #[.int .i64 a, .int .i64 b, .string d, .slice A2 c.names.length c2, .slice A3 c.texts.length c3]), (some 26, .agg #[.int .i64 a, .int .i64 b, .string d, .slice AN nn cN, .slice AT nt cT]), (some 27, (rs 2).getD undef), (some 28, (rs 3).getD undef), (some 29, .bool false), (some 30, .bool false), (some 31, (rs 6).getD undef), (some 32, .bool false), (some 33, .bool false)])
          (by kernel_rfl) (by kernel_rfl) rfl (fun _ => rfl) ?h0 ?hob ?hend
        case hob =>
          intro i hi
          match i, hi with
          | 0, _ => exact Reg.Ob.pure rfl rfl rfl (fun rs => .agg #[.int .i64 a, .int .i64 b, .string d, .slice A2 c.names.length c2, .slice A3 c.texts.length c3]) (fun _ => rfl) (fun rs wx ra hs hd hl hk => by
              have e5 : (ra.tmps[5]?).getD undef = .pointer (some ⟨w2.heap.size, 0, none⟩) := hk 5 (by decide)
              have c0_ := blk_cell hs.b3 0
              have c1_ := blk_cell hs.b3 1
              have c2_ := blk_cell hs.b3 2
              have c3_ := blk_cell hs.b3 3
              have c4_ := blk_cell hs.b3 4
              go_simp)
          | 1, _ => exact Reg.Ob.pure rfl rfl rfl (fun rs => .agg #[.int .i64 a, .int .i64 b, .string d, .slice AN nn cN, .slice AT nt cT]) (fun _ => rfl) (fun rs wx ra hs hd hl hk => by
              have e2 : (ra.tmps[2]?).getD undef = .pointer (some ⟨w.heap.size, 0, none⟩) := hk 2 (by decide)
              have c0_ := blk_cell hs.b1 0
              have c1_ := blk_cell hs.b1 1
              have c2_ := blk_cell hs.b1 2
              have c3_ := blk_cell hs.b1 3
              have c4_ := blk_cell hs.b1 4
              go_simp)
          | 2, _ =>
            refine Reg.Ob.eff rfl rfl rfl ?_
            intro rs wx ra hs hd hn hl hk K hK
            have e26 : (ra.tmps[26]?).getD undef = .agg #[.int .i64 a, .int .i64 b, .string d, .slice AN nn cN, .slice AT nt cT] := hk 26 (by decide)
            have C := HCT.out wx (H6.out.2.2.2.2.2.trans (hs.below.mono H6.out.2.2.2.2.2.size))
            have HC := Lib.hid C
            clear C
            have HS := Lib.hid hs
            have HN' := Lib.hid hn
            have HL := Lib.hid hl
            have HKK := Lib.hid hK
            clear hs hn hd hl hk hK
            go_simp
            refine HC.out.mono ?_
            rintro e w5' ⟨vn', vt', rfl, hn', ht', hb'⟩
            refine HKK.out _ _ ⟨HS.out.below.trans (hb'.mono HS.out.below.size), HS.out.old.trans (hb'.mono HS.out.old.size), blk_below HS.out.b1 hb' (blk_lt HS.out.b1), blk_below HS.out.b3 hb' (blk_lt HS.out.b3), fun u hu => ?_, fun u hu => ?_, fun u hu => ?_⟩
            · have h2 : some (Value.agg #[.int .i64 a, .int .i64 b, .string d, vn', vt']) = some u := hu
              cases h2
              exact ⟨_, _, _, rfl, hn', ht'⟩
            · have : rs 3 = some u := by simpa [Reg.upd] using hu
              rw [HL.out 3 (by decide)] at this
              cases this
            · have : rs 6 = some u := by simpa [Reg.upd] using hu
              rw [HL.out 6 (by decide)] at this
              cases this
          | 3, _ =>
            refine Reg.Ob.eff rfl rfl rfl ?_
            intro rs wx ra hs hd hn hl hk K hK
            have e25 : (ra.tmps[25]?).getD undef = .agg #[.int .i64 a, .int .i64 b, .string d, .slice A2 c.names.length c2, .slice A3 c.texts.length c3] := hk 25 (by decide)
            have e27 : (ra.tmps[27]?).getD undef = ((rs 2).getD undef) := hk 27 (by decide)
            obtain ⟨u2, hu2⟩ := hd 2 (by decide) (by decide)
            obtain ⟨vn', vt', B', rfl, hn', ht'⟩ := hs.tw u2 hu2
            rw [hu2] at e27
            simp only [Option.getD_some] at e27
            have C := sameSh_true a b d (.slice A2 c.names.length c2) (.slice A3 c.texts.length c3) vn' vt' c.names c.texts (HM.out.2.2.2.1.below hs.old (fun k hk => (HM.out.2.2.2.1.lt k hk).2)) hn' (TabQ.below HM.out.2.2.2.2.1 hs.old) ht' (by have := HCK.out.1; omega)
            have HC := Lib.hid (And.intro C (And.intro hu2 (And.intro hn' ht')))
            clear C hu2 hn' ht'
            have HS := Lib.hid hs
            have HN' := Lib.hid hn
            have HL := Lib.hid hl
            have HKK := Lib.hid hK
            clear hs hn hd hl hk hK
            go_simp
            refine HC.out.1.mono ?_
            rintro e w5' ⟨rfl, hb'⟩
            refine HKK.out _ _ ⟨HS.out.below.trans (hb'.mono HS.out.below.size), HS.out.old.trans (hb'.mono HS.out.old.size), blk_below HS.out.b1 hb' (blk_lt HS.out.b1), blk_below HS.out.b3 hb' (blk_lt HS.out.b3), fun u hu => ?_, fun u hu => ?_, fun u hu => ?_⟩
            · obtain ⟨vn2, vt2, B2, e1, e2, e3⟩ := HS.out.tw u (by simpa [Reg.upd] using hu)
              exact ⟨vn2, vt2, B2, e1, e2.below hb' (fun k hk => (e2.lt k hk).2), e3.below hb'⟩
            · have h2 : some (Value.bool true) = some u := hu
              cases h2
              rfl
            · have : rs 6 = some u := by simpa [Reg.upd] using hu
              rw [HL.out 6 (by decide)] at this
              cases this
          | 4, _ => exact Reg.Ob.pure rfl rfl rfl (fun rs => .bool false) (fun _ => rfl) (fun rs wx ra hs hd hl hk => by
              have e28 : (ra.tmps[28]?).getD undef = ((rs 3).getD undef) := hk 28 (by decide)
              obtain ⟨u3, hu3⟩ := hd 3 (by decide) (by decide)
              obtain rfl := hs.sm u3 hu3
              rw [hu3] at e28
              simp only [Option.getD_some] at e28
              clear hu3
              go_simp)
          | 5, _ => exact Reg.Ob.pure rfl rfl rfl (fun rs => .bool false) (fun _ => rfl) (fun rs wx ra hs hd hl hk => by
              have e29 : (ra.tmps[29]?).getD undef = .bool false := hk 29 (by decide)
              go_simp)
          | 6, _ =>
            refine Reg.Ob.geff rfl rfl (fun rs wx hs hd => rfl) ?_
            intro rs wx ra hs hd hn hl hk K hK
            have C := wakes17_any wx (HG.out.2.later (H6.out.2.2.2.2.2.trans (hs.below.mono H6.out.2.2.2.2.2.size)))
            have HC := Lib.hid C
            clear C
            have HS := Lib.hid hs
            have HN' := Lib.hid hn
            have HL := Lib.hid hl
            have HKK := Lib.hid hK
            clear hs hn hd hl hk hK
            go_simp
            refine HC.out.mono ?_
            rintro e w5' ⟨rfl, hb'⟩
            refine HKK.out _ _ ⟨HS.out.below.trans (hb'.mono HS.out.below.size), HS.out.old.trans (hb'.mono HS.out.old.size), blk_below HS.out.b1 hb' (blk_lt HS.out.b1), blk_below HS.out.b3 hb' (blk_lt HS.out.b3), fun u hu => ?_, fun u hu => ?_, fun u hu => ?_⟩
            · obtain ⟨vn2, vt2, B2, e1, e2, e3⟩ := HS.out.tw u (by simpa [Reg.upd] using hu)
              exact ⟨vn2, vt2, B2, e1, e2.below hb' (fun k hk => (e2.lt k hk).2), e3.below hb'⟩
            · exact HS.out.sm u (by simpa [Reg.upd] using hu)
            · have h2 : some (Value.bool true) = some u := hu
              cases h2
              rfl
          | 7, _ => exact Reg.Ob.guarded rfl rfl (fun rs => .bool false) (fun _ => rfl) (fun rs wx hs hd => rfl) (fun rs wx ra hs hd hl hk => by
              have e31 : (ra.tmps[31]?).getD undef = ((rs 6).getD undef) := hk 31 (by decide)
              obtain ⟨u6, hu6⟩ := hd 6 (by decide) (by decide)
              obtain rfl := hs.wk u6 hu6
              rw [hu6] at e31
              simp only [Option.getD_some] at e31
              clear hu6
              go_simp)
          | 8, _ => exact Reg.Ob.pure rfl rfl rfl (fun rs => .bool false) (fun _ => rfl) (fun rs wx ra hs hd hl hk => by
              have e30 : (ra.tmps[30]?).getD undef = .bool false := hk 30 (by decide)
              have e32 : (ra.tmps[32]?).getD undef = .bool false := hk 32 (by decide)
              go_simp)
          | n + 9, h => exact absurd h (by simp <;> omega)
        case h0 =>
          exact ⟨below_drewNs w6 1, H6.out.2.2.2.2.1.drew, H6.out.2.2.1, H6.out.2.2.2.1, fun u hu => (by cases hu), fun u hu => (by cases hu), fun u hu => (by cases hu)⟩
        case hend =>
          intro rs wx hs hd
          obtain ⟨u2, hu2⟩ := hd 2 (by decide) (by decide)
          obtain ⟨u3, hu3⟩ := hd 3 (by decide) (by decide)
          obtain ⟨u6, hu6⟩ := hd 6 (by decide) (by decide)
          obtain rfl := hs.sm u3 hu3
          obtain rfl := hs.wk u6 hu6
          simp only [List.foldl_cons, List.foldl_nil, Act.put, List.setIfInBounds_toArray, List.set_cons_zero, List.set_cons_succ]
          rw [hu2, hu3, hu6]
          simp only [Option.getD_some]
          have H7 := Lib.hid (And.intro hs.below (And.intro hs.old hs.b3))
          obtain ⟨y0, y1, y2, y3, y4, _⟩ := shCells hs.b3
          have z7 : w2.heap.size < wx.heap.size := blk_lt hs.b3
          clear hs hd hu2 hu3 hu6

          go_wp2_with fail
          go_ret
          exact ⟨rfl, H6.out.2.2.2.2.2.trans (H7.out.1.mono H6.out.2.2.2.2.2.size)⟩
      · rw [n2] at e0; cases e0
    · rw [n1] at e0; cases e0
  · rcases hres with ⟨e0, _⟩ | ⟨L', lb, mb, n, D, e0, rfl, hnl, hl4⟩
    · rw [s1] at e0; cases e0
    · rw [s1] at e0
      cases e0
      have hbw4 : Below w.heap.size w w4 := HM.out.2.2.2.2.2.1.trans (hb4.mono HM.out.2.2.2.2.2.1.size)
      have x1 := blk_below HM.out.2.2.2.2.2.2.1 hb4 (blk_lt HM.out.2.2.2.2.2.2.1)
      have x3 := blk_below HM.out.2.2.2.2.2.2.2.1 hb4 (blk_lt HM.out.2.2.2.2.2.2.2.1)
      obtain ⟨y0, y1, y2, y3, y4, _⟩ := shCells x1
      have z1 : w.heap.size < w4.heap.size := blk_lt x1
      have H4 := Lib.hid (And.intro hbw4 (And.intro x1 (And.intro x3 (And.intro hb4 hl4))))
      clear hbw4 x1 x3 hb4
      go_wp2_with fail
      clear y0 y1 y2 y3 y4
      refine (HCT.out w4 H4.out.1).mono ?_
      rintro e w5 ⟨vn5, vt5, rfl, hn5, ht5, hb5⟩
      have H5 := Lib.hid (And.intro hn5 (And.intro ht5 hb5))
      clear hn5 ht5 hb5
      go_wp2_with fail
      refine (HCR.out w5 _ _ (txt_strs H5.out.1) (TabQ.tabS H5.out.2.1)).mono ?_
      rintro e w6 ⟨hb6, hres6⟩

      rcases hres6 with ⟨e0, _⟩ | ⟨S', qb, e0, rfl, hr6⟩
      · rw [s2] at e0; cases e0
      · rw [s2] at e0
        cases e0
        have HP0 := Lib.hid (And.intro hr6 (And.intro htw (And.intro hrows (And.intro hlen hnl))))
        clear hr6 htw hrows hlen hnl s1 s2
        have hb46 : Below w4.heap.size w4 w6 := H5.out.2.2.trans (hb6.mono H5.out.2.2.size)
        have x1 := blk_below H4.out.2.1 hb46 (blk_lt H4.out.2.1)
        have x3 := blk_below H4.out.2.2.1 hb46 (blk_lt H4.out.2.2.1)
        have hold : Below W3.heap.size W3 w6 := H4.out.2.2.2.1.trans (hb46.mono H4.out.2.2.2.1.size)
        have hbw6 : Below w.heap.size w w6 := H4.out.1.trans (hb46.mono H4.out.1.size)
        have H6 := Lib.hid (And.intro hb6 (And.intro hb46 (And.intro x1 (And.intro x3 (And.intro hold hbw6)))))
        clear hb6 hb46 x1 x3 hold hbw6
        go_wp2_with fail
        refine Reg.wp_region_puts (A := [[], [], [1], [0, 2, 1], [3, 0, 2, 1], [4, 3, 0, 2, 1], [5, 4, 3, 0, 2, 1], [6, 5, 4, 3, 0, 2, 1], [5, 4, 3, 0, 2, 1, 7, 6]]) (effs := [2, 3, 6]) (N := 71)
          (val := fun i r => match i with | 0 => .agg #[.int .i64 a, .int .i64 b, .string d, .slice A2 c.names.length c2, .slice A3 c.texts.length c3] | 1 => .agg #[.int .i64 a, .int .i64 b, .string d, .slice AN nn cN, .slice AT nt cT] | 4 => .bool false | 5 => .bool false | 7 => .bool false | 8 => .bool false | _ => undef)
          (Stage := fun rs wx => OwSt w w6 wx W3 w2.heap.size (shC a b d (.slice AN nn cN) (.slice AT nt cT)) (shC a b d (.slice A2 c.names.length c2) (.slice A3 c.texts.length c3)) a b d c rs)
          (fun rs => [(some 25, .agg #[.int .i64 a, .int .i64 b, .string d, .slice A2 c.names.length c2, .slice A3 c.texts.length c3]), (some 26, .agg #[.int .i64 a, .int .i64 b, .string d, .slice AN nn cN, .slice AT nt cT]), (some 27, (rs 2).getD undef), (some 28, (rs 3).getD undef), (some 29, .bool false), (some 30, .bool false), (some 31, (rs 6).getD undef), (some 32, .bool false), (some 33, .bool false)])
          (by kernel_rfl) (by kernel_rfl) rfl (fun _ => rfl) ?h0 ?hob ?hend
        case hob =>
          intro i hi
          match i, hi with
          | 0, _ => exact Reg.Ob.pure rfl rfl rfl (fun rs => .agg #[.int .i64 a, .int .i64 b, .string d, .slice A2 c.names.length c2, .slice A3 c.texts.length c3]) (fun _ => rfl) (fun rs wx ra hs hd hl hk => by
              have e5 : (ra.tmps[5]?).getD undef = .pointer (some ⟨w2.heap.size, 0, none⟩) := hk 5 (by decide)
              have c0_ := blk_cell hs.b3 0
              have c1_ := blk_cell hs.b3 1
              have c2_ := blk_cell hs.b3 2
              have c3_ := blk_cell hs.b3 3
              have c4_ := blk_cell hs.b3 4
              go_simp)
          | 1, _ => exact Reg.Ob.pure rfl rfl rfl (fun rs => .agg #[.int .i64 a, .int .i64 b, .string d, .slice AN nn cN, .slice AT nt cT]) (fun _ => rfl) (fun rs wx ra hs hd hl hk => by
              have e2 : (ra.tmps[2]?).getD undef = .pointer (some ⟨w.heap.size, 0, none⟩) := hk 2 (by decide)
              have c0_ := blk_cell hs.b1 0
              have c1_ := blk_cell hs.b1 1
              have c2_ := blk_cell hs.b1 2
              have c3_ := blk_cell hs.b1 3
              have c4_ := blk_cell hs.b1 4
              go_simp)
          | 2, _ =>
            refine Reg.Ob.eff rfl rfl rfl ?_
            intro rs wx ra hs hd hn hl hk K hK
            have e26 : (ra.tmps[26]?).getD undef = .agg #[.int .i64 a, .int .i64 b, .string d, .slice AN nn cN, .slice AT nt cT] := hk 26 (by decide)
            have C := HCT.out wx (H6.out.2.2.2.2.2.trans (hs.below.mono H6.out.2.2.2.2.2.size))
            have HC := Lib.hid C
            clear C
            have HS := Lib.hid hs
            have HN' := Lib.hid hn
            have HL := Lib.hid hl
            have HKK := Lib.hid hK
            clear hs hn hd hl hk hK
            go_simp
            refine HC.out.mono ?_
            rintro e w5' ⟨vn', vt', rfl, hn', ht', hb'⟩
            refine HKK.out _ _ ⟨HS.out.below.trans (hb'.mono HS.out.below.size), HS.out.old.trans (hb'.mono HS.out.old.size), blk_below HS.out.b1 hb' (blk_lt HS.out.b1), blk_below HS.out.b3 hb' (blk_lt HS.out.b3), fun u hu => ?_, fun u hu => ?_, fun u hu => ?_⟩
            · have h2 : some (Value.agg #[.int .i64 a, .int .i64 b, .string d, vn', vt']) = some u := hu
              cases h2
              exact ⟨_, _, _, rfl, hn', ht'⟩
            · have : rs 3 = some u := by simpa [Reg.upd] using hu
              rw [HL.out 3 (by decide)] at this
              cases this
            · have : rs 6 = some u := by simpa [Reg.upd] using hu
              rw [HL.out 6 (by decide)] at this
              cases this
          | 3, _ =>
            refine Reg.Ob.eff rfl rfl rfl ?_
            intro rs wx ra hs hd hn hl hk K hK
            have e25 : (ra.tmps[25]?).getD undef = .agg #[.int .i64 a, .int .i64 b, .string d, .slice A2 c.names.length c2, .slice A3 c.texts.length c3] := hk 25 (by decide)
            have e27 : (ra.tmps[27]?).getD undef = ((rs 2).getD undef) := hk 27 (by decide)
            obtain ⟨u2, hu2⟩ := hd 2 (by decide) (by decide)
            obtain ⟨vn', vt', B', rfl, hn', ht'⟩ := hs.tw u2 hu2
            rw [hu2] at e27
            simp only [Option.getD_some] at e27
            have C := sameSh_true a b d (.slice A2 c.names.length c2) (.slice A3 c.texts.length c3) vn' vt' c.names c.texts (HM.out.2.2.2.1.below hs.old (fun k hk => (HM.out.2.2.2.1.lt k hk).2)) hn' (TabQ.below HM.out.2.2.2.2.1 hs.old) ht' (by have := HCK.out.1; omega)
            have HC := Lib.hid (And.intro C (And.intro hu2 (And.intro hn' ht')))
            clear C hu2 hn' ht'
            have HS := Lib.hid hs
            have HN' := Lib.hid hn
            have HL := Lib.hid hl
            have HKK := Lib.hid hK
            clear hs hn hd hl hk hK
            go_simp
            refine HC.out.1.mono ?_
            rintro e w5' ⟨rfl, hb'⟩
            refine HKK.out _ _ ⟨HS.out.below.trans (hb'.mono HS.out.below.size), HS.out.old.trans (hb'.mono HS.out.old.size), blk_below HS.out.b1 hb' (blk_lt HS.out.b1), blk_below HS.out.b3 hb' (blk_lt HS.out.b3), fun u hu => ?_, fun u hu => ?_, fun u hu => ?_⟩
            · obtain ⟨vn2, vt2, B2, e1, e2, e3⟩ := HS.out.tw u (by simpa [Reg.upd] using hu)
              exact ⟨vn2, vt2, B2, e1, e2.below hb' (fun k hk => (e2.lt k hk).2), e3.below hb'⟩
            · have h2 : some (Value.bool true) = some u := hu
              cases h2
              rfl
            · have : rs 6 = some u := by simpa [Reg.upd] using hu
              rw [HL.out 6 (by decide)] at this
              cases this
          | 4, _ => exact Reg.Ob.pure rfl rfl rfl (fun rs => .bool false) (fun _ => rfl) (fun rs wx ra hs hd hl hk => by
              have e28 : (ra.tmps[28]?).getD undef = ((rs 3).getD undef) := hk 28 (by decide)
              obtain ⟨u3, hu3⟩ := hd 3 (by decide) (by decide)
              obtain rfl := hs.sm u3 hu3
              rw [hu3] at e28
              simp only [Option.getD_some] at e28
              clear hu3
              go_simp)
          | 5, _ => exact Reg.Ob.pure rfl rfl rfl (fun rs => .bool false) (fun _ => rfl) (fun rs wx ra hs hd hl hk => by
              have e29 : (ra.tmps[29]?).getD undef = .bool false := hk 29 (by decide)
              go_simp)
          | 6, _ =>
            refine Reg.Ob.geff rfl rfl (fun rs wx hs hd => rfl) ?_
            intro rs wx ra hs hd hn hl hk K hK
            have C := wakes17_any wx (HG.out.2.later (H6.out.2.2.2.2.2.trans (hs.below.mono H6.out.2.2.2.2.2.size)))
            have HC := Lib.hid C
            clear C
            have HS := Lib.hid hs
            have HN' := Lib.hid hn
            have HL := Lib.hid hl
            have HKK := Lib.hid hK
            clear hs hn hd hl hk hK
            go_simp
            refine HC.out.mono ?_
            rintro e w5' ⟨rfl, hb'⟩
            refine HKK.out _ _ ⟨HS.out.below.trans (hb'.mono HS.out.below.size), HS.out.old.trans (hb'.mono HS.out.old.size), blk_below HS.out.b1 hb' (blk_lt HS.out.b1), blk_below HS.out.b3 hb' (blk_lt HS.out.b3), fun u hu => ?_, fun u hu => ?_, fun u hu => ?_⟩
            · obtain ⟨vn2, vt2, B2, e1, e2, e3⟩ := HS.out.tw u (by simpa [Reg.upd] using hu)
              exact ⟨vn2, vt2, B2, e1, e2.below hb' (fun k hk => (e2.lt k hk).2), e3.below hb'⟩
            · exact HS.out.sm u (by simpa [Reg.upd] using hu)
            · have h2 : some (Value.bool true) = some u := hu
              cases h2
              rfl
          | 7, _ => exact Reg.Ob.guarded rfl rfl (fun rs => .bool false) (fun _ => rfl) (fun rs wx hs hd => rfl) (fun rs wx ra hs hd hl hk => by
              have e31 : (ra.tmps[31]?).getD undef = ((rs 6).getD undef) := hk 31 (by decide)
              obtain ⟨u6, hu6⟩ := hd 6 (by decide) (by decide)
              obtain rfl := hs.wk u6 hu6
              rw [hu6] at e31
              simp only [Option.getD_some] at e31
              clear hu6
              go_simp)
          | 8, _ => exact Reg.Ob.pure rfl rfl rfl (fun rs => .bool false) (fun _ => rfl) (fun rs wx ra hs hd hl hk => by
              have e30 : (ra.tmps[30]?).getD undef = .bool false := hk 30 (by decide)
              have e32 : (ra.tmps[32]?).getD undef = .bool false := hk 32 (by decide)
              go_simp)
          | n + 9, h => exact absurd h (by simp <;> omega)
        case h0 =>
          exact ⟨below_drewNs w6 1, H6.out.2.2.2.2.1.drew, H6.out.2.2.1, H6.out.2.2.2.1, fun u hu => (by cases hu), fun u hu => (by cases hu), fun u hu => (by cases hu)⟩
        case hend =>
          intro rs wx hs hd
          obtain ⟨u2, hu2⟩ := hd 2 (by decide) (by decide)
          obtain ⟨u3, hu3⟩ := hd 3 (by decide) (by decide)
          obtain ⟨u6, hu6⟩ := hd 6 (by decide) (by decide)
          obtain rfl := hs.sm u3 hu3
          obtain rfl := hs.wk u6 hu6
          simp only [List.foldl_cons, List.foldl_nil, Act.put, List.setIfInBounds_toArray, List.set_cons_zero, List.set_cons_succ]
          rw [hu2, hu3, hu6]
          simp only [Option.getD_some]
          have H7 := Lib.hid (And.intro hs.below (And.intro hs.old hs.b3))
          obtain ⟨y0, y1, y2, y3, y4, _⟩ := shCells hs.b3
          have z7 : w2.heap.size < wx.heap.size := blk_lt hs.b3
          clear hs hd hu2 hu3 hu6

          go_wp2_with fail
          have hwx : Below w.heap.size w wx := H6.out.2.2.2.2.2.trans (H7.out.1.mono H6.out.2.2.2.2.2.size)
          refine (spoil_any w2 wx W1.heap.size a b d _ _ c.names c.texts HM.out.1 HM.out.2.1 (HM.out.2.2.1.trans (H7.out.2.1.mono HM.out.2.2.1.size))).mono ?_
          rintro e w8 ⟨rfl, hu8⟩
          have q1 := HW1.out.1.size
          have q2 := HM.out.2.2.1.size
          have q3 := H4.out.2.2.2.1.size
          have q5 := H5.out.2.2.size
          have q7 := hwx.size
          have hP8 : PEx w w8 lb mb qb L S 20 :=
            { below := hwx.trans (hu8.below (fun k hk => Nat.le_trans q1 hk.1) q7)
              prog := ⟨n, D, by have := HP0.out.2.2.2.2; have := HCK.out.2; omega, ((H4.out.2.2.2.2.below (H6.out.2.1.trans (H7.out.1.mono H6.out.2.1.size))).hi hu8 (Nat.le_refl _) (fun k hk => Nat.lt_of_lt_of_le hk.2 q2)).lower HM.out.2.2.2.2.2.1.size⟩
              ref := ((HP0.out.1.below H7.out.1).hi hu8 (Nat.le_refl _) (fun k hk => Nat.lt_of_lt_of_le hk.2 (Nat.le_trans q2 (Nat.le_trans q3 q5)))).lower (Nat.le_trans H4.out.1.size q5)
              twin := HP0.out.2.1
              rows := HP0.out.2.2.1
              len := by have := HP0.out.2.2.2.1; have := HCK.out.2; omega }
          have H8 := Lib.hid hP8
          clear hP8 hu8 q1 q2 q3 q5 q7 hwx y0 y1 y2 y3 y4 z7 z1
          go_wp2_with fail
          refine (texts_any w8 _ texts (HG.out.1.below H8.out.below) 20 120 (by decide) (by decide)).mono ?_
          rintro e w9 ⟨A9, c9, rfl, hb9, hs9⟩
          have ht20 : (cutAll texts 20 120).length ≤ 20 := by rw [cutAll_length]; omega
          have htz : ∀ t ∈ cutAll texts 20 120, t.size ≤ 120 := fun t ht => cutAll_size ht
          have CX := fun W (hb : Below w.heap.size w W) => texts_any W _ texts (HG.out.1.below hb) 20 120 (by decide) (by decide)
          obtain ⟨tl, htl⟩ : ∃ t, cutAll texts 20 120 = t := ⟨_, rfl⟩
          rw [htl] at hs9 ht20 htz CX ⊢
          have hx : ∃ x, x < w9.heap.size ∧ RfAv w9 w.heap.size qb S x ∧ (tl.length = 0 ∨ (Value.slice A9 tl.length c9).ownBlock = some x) := by
            rcases Nat.eq_zero_or_pos tl.length with h0 | h0
            · obtain ⟨_, _, _, rows, hR⟩ := id (H8.out.call hb9).ref
              exact ⟨qb, blk_lt hR.cells, (H8.out.call hb9).ref.av hR.cells (fun cs e => by simp at e), .inl h0⟩
            · obtain ⟨gx, off, cap, hv, hg1, hg2, _⟩ := hs9.form h0
              exact ⟨gx, hg2, (H8.out.ref.fresh (.inl hg1)).below hb9, .inr (by rw [hv]; rfl)⟩
          obtain ⟨x, hx1, hx2, hx3⟩ := hx
          have H9 := Lib.hid (And.intro (H8.out.call hb9) (And.intro hs9 (And.intro hx1 (And.intro hx2 hx3))))
          have HCX := Lib.hid (And.intro CX (And.intro ht20 htz))
          have HW8 := Lib.hid H8.out.below.size
          clear hb9 hs9 hx1 hx2 hx3 CX ht20 htz htl H8
          go_wp2_with fail
          obtain ⟨n9, D9, hn9, hl9⟩ := H9.out.1.prog
          refine (set_any hl9 (HG.out.2.later H9.out.1.below) ⟨#[122, 101, 100]⟩ (by decide) _ tl (txt_strs H9.out.2.1) (by have := HCX.out.2.1; omega) (fun t h => by have := HCX.out.2.2 t h; omega) (by omega) H9.out.1.below.size).mono ?_
          rintro e w10 ⟨rfl, n10, D10, hn10, hl10, hg10⟩
          have hu10 : Upd w9.heap.size (fun k => k = lb ∨ k = mb) w9 w10 := Upd.of_grown hg10 (.inr rfl) (Nat.le_refl _)
          have H10 := Lib.hid (And.intro (H9.out.1.below.trans (hu10.below (fun k hk => by have := hl9.lo; rcases hk with rfl | rfl; exact this.1; exact this.2) H9.out.1.below.size)) (And.intro hl10 (And.intro (H9.out.2.2.2.1.progd hl9 hu10) (And.intro (txt_progd H9.out.2.1 hl9 hu10) (And.intro (show n10 ≤ 21 by omega) (Nat.lt_of_lt_of_le H9.out.2.2.1 hu10.size))))))
          clear hl9 hn9 hl10 hg10 hu10 hn10
          go_wp2_with fail
          refine (HCX.out.1 w10 H10.out.1).mono ?_
          rintro e w11 ⟨A11, c11, rfl, hb11, hs11⟩
          have H11 := Lib.hid (And.intro (H10.out.1.trans (hb11.mono H10.out.1.size)) (And.intro (H10.out.2.1.below hb11) (And.intro (H10.out.2.2.1.below hb11) (And.intro (H10.out.2.2.2.1.below hb11 (fun k hk => (H10.out.2.2.2.1.lt k hk).2)) (And.intro hs11 (Nat.lt_of_lt_of_le H10.out.2.2.2.2.2 hb11.size))))))
          clear hb11 hs11
          go_wp2_with fail
          refine (rset17_av H11.out.2.2.1 H11.out.2.2.2.2.2 ⟨#[122, 101, 100]⟩ (by decide) _ tl (txt_strs H11.out.2.2.2.2.1) (by have := HCX.out.2.1; omega) (fun t h => by have := HCX.out.2.2 t h; omega) (by have := H9.out.1.len; omega) H11.out.1.size).mono ?_
          rintro e w12 ⟨rfl, hr12, hu12⟩
          have H12 := Lib.hid (And.intro (below_refd H11.out.1 H11.out.2.2.1.at hu12 H11.out.1.size) (And.intro (H11.out.2.1.refd H11.out.2.2.1.at hu12) (And.intro hr12 (txt_refd H11.out.2.2.2.1 H11.out.2.2.1.at hu12))))
          clear hr12 hu12
          go_wp2_with fail
          refine (HCX.out.1 w12 H12.out.1).mono ?_
          rintro e w13 ⟨A13, c13, rfl, hb13, hs13⟩
          have H13 := Lib.hid (And.intro hb13 hs13)
          clear hb13 hs13
          have C := same_any (.slice A9 tl.length c9) (.slice A13 tl.length c13) tl tl w13 (txt_strs (H12.out.2.2.2.below H13.out.1 (fun k hk => (H12.out.2.2.2.lt k hk).2))) (txt_strs H13.out.2)
          simp only [decide_true] at C
          have HC := Lib.hid C
          clear C
          go_wp2_with fail
          refine HC.out.mono ?_
          rintro e w14 ⟨rfl, hb14⟩
          have hb124 : Below w12.heap.size w12 w14 := H13.out.1.trans (hb14.mono H13.out.1.size)
          have H14 := Lib.hid (And.intro (H12.out.1.trans (hb124.mono H12.out.1.size)) (And.intro (H12.out.2.1.below hb124) (And.intro (H12.out.2.2.1.below hb124) (H12.out.2.2.2.below hb124 (fun k hk => (H12.out.2.2.2.lt k hk).2)))))
          clear hb14 hb124
          have hl9 : (tl.length : Int) ≤ 20 := by have := HCX.out.2.1; omega
          go_wp2_with fail
          go_loopg [11] tl.length (fun g s11 wr => ∃ k : Nat, k ≤ tl.length ∧ g = tl.length - k ∧ s11 = .int .i64 k ∧ Upd w14.heap.size (fun q => tl.length ≠ 0 ∧ q = x) w14 wr ∧ StrSlots wr w8.heap.size (.slice A9 tl.length c9) tl.length)
          case atStart => exact ⟨0, Nat.zero_le _, rfl, rfl, Upd.refl _ _ _, ⟨_, H14.out.2.2.2⟩⟩
          case round =>
            obtain ⟨k, hk, hgk, rfl, hux, hss⟩ := hrel
            have HX := Lib.hid (And.intro hux hss)
            have HK := Lib.hid (And.intro hk hgk)
            clear hux hss hk hgk
            by_cases hlt : k < tl.length
            · have t2 : (k : Int) < (tl.length : Int) := by omega
              have t4 : (0 : Int) ≤ (k : Int) := by omega
              have hw : IntKind.i64.wrap ((k : Int) + 1) = (k : Int) + 1 := IntWalk.i64_in _ (by omega)
              obtain ⟨bX, oX, cs, rfl, hbX, hBX, hfz, ⟨v, hcv⟩, hcs⟩ := HX.out.2.at hlt
              have hbx : bX = x := by
                rcases H9.out.2.2.2.2 with h | h
                · omega
                · simpa [Value.ownBlock] using h
              have HC2 := Lib.hid (And.intro hcs (And.intro hBX (And.intro hlt hbx)))
              clear hcs hBX hlt hbx
              go_wp2_with fail
              go_roundg (tl.length - (k + 1))
              case measure => have := HK.out.2; have := HC2.out.2.2.1; omega
              case rel => exact ⟨k + 1, by have := HC2.out.2.2.1; omega, rfl, by go_num, HX.out.1.setCell (.inl ⟨by have := HC2.out.2.2.1; omega, HC2.out.2.2.2⟩) _, HX.out.2.set HC2.out.1 _ _⟩
            · have t2 : ¬ (k : Int) < (tl.length : Int) := by omega
              have hs2 := HP0.out.2.1.sorted
              have hset := HP0.out.2.2.1.set hs2 (name := ⟨#[122, 101, 100]⟩) (by decide) (texts := tl) (by have := HCX.out.2.1; omega) (fun t h => by have := HCX.out.2.2 t h; omega)
              have htw := (HP0.out.2.1.set ⟨#[122, 101, 100]⟩ tl).2
              have hlen : (S.set ⟨#[122, 101, 100]⟩ tl).2.rows.length ≤ 21 := by have := hset.2; have := H9.out.1.len; omega
              have hP : PEx w wr lb mb qb (L.set ⟨#[122, 101, 100]⟩ tl).2 (S.set ⟨#[122, 101, 100]⟩ tl).2 21 := by
                rcases H9.out.2.2.2.2 with h0 | h0
                · have hbw : Below w14.heap.size w14 wr := HX.out.1.below (fun q hq => absurd h0 hq.1) (Nat.le_refl _)
                  exact { below := H14.out.1.trans (hbw.mono H14.out.1.size), prog := ⟨n10, D10, H10.out.2.2.2.2.1, H14.out.2.1.below hbw⟩, ref := H14.out.2.2.1.at.below hbw, twin := htw, rows := hset.1, len := hlen }
                · have hux : Upd w14.heap.size (fun q => q = x) w14 wr := ⟨HX.out.1.os, HX.out.1.tape, HX.out.1.output, HX.out.1.size, fun q hq hn => HX.out.1.block q hq (fun e => hn e.2)⟩
                  obtain ⟨cs, hcs⟩ := Seq.block H14.out.2.2.2 x h0
                  have hxB := (Seq.lt H9.out.2.1 x h0).1
                  exact { below := H14.out.1.trans (hux.below (fun q hq => by rw [hq]; have := H9.out.1.below.size; exact Nat.le_trans HW8.out hxB) H14.out.1.size), prog := ⟨n10, D10, H10.out.2.2.2.2.1, H14.out.2.1.wrote hcs hux (Nat.le_refl _)⟩, ref := H14.out.2.2.1.wrote hcs hux (Nat.le_refl _), twin := htw, rows := hset.1, len := hlen }
              have H15 := Lib.hid hP
              clear hs2 hset htw hlen hP hlt
              go_wp2_with fail
              refine (shelf_law H15.out (by decide)).mono ?_
              rintro e w16 ⟨vn6, vt6, rfl, hn6, ht6, hb6⟩
              have H16 := Lib.hid (And.intro hn6 (And.intro ht6 hb6))
              clear hn6 ht6 hb6
              go_wp2_with fail
              refine (spoil_any w16 w16 wr.heap.size _ _ _ _ _ _ _ H16.out.1 H16.out.2.1 (Below.refl _ _)).mono ?_
              rintro e w17 ⟨rfl, hu17⟩
              have H17 := Lib.hid (H15.out.call (H16.out.2.2.trans (hu17.below (fun q hq => hq.1) H16.out.2.2.size)))
              clear hu17
              go_wp2_with fail
              refine (shelf_law H17.out (by decide)).mono ?_
              rintro e w18 ⟨vn8, vt8, rfl, hn8, ht8, hb8⟩
              have H18 := Lib.hid (And.intro hn8 (And.intro ht8 hb8))
              clear hn8 ht8 hb8
              go_wp2_with fail
              refine (rshelf_law (H17.out.call H18.out.2.2) (by decide)).mono ?_
              rintro e w19 ⟨vn9, vt9, rfl, hn9, ht9, hb9⟩
              have H19 := Lib.hid (And.intro hn9 (And.intro ht9 hb9))
              clear hn9 ht9 hb9
              go_wp2_with fail
              refine (sameSh_true _ _ _ vn8 vt8 vn9 vt9 _ _ (H18.out.1.below H19.out.2.2 (fun k hk => (H18.out.1.lt k hk).2)) H19.out.1 (TabQ.below H18.out.2.1 H19.out.2.2) H19.out.2.1 (by rw [List.length_map]; have := H17.out.len; omega)).mono ?_
              rintro e w20 ⟨rfl, hb20⟩
              have H20 := Lib.hid hb20
              clear hb20
              go_wp2_with fail
              go_ret
              have p1 := H17.out.below
              have p2 := p1.trans (H18.out.2.2.mono p1.size)
              have p3 := p2.trans (H19.out.2.2.mono p2.size)
              exact ⟨rfl, p3.trans (H20.out.mono p3.size)⟩
end Go.Proofs.YthbjcihdlhkboaaGreatDoor
