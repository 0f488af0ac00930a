/- The reference's roster in memory; where an entry stands, how many there are. The reference's roster: New, an entry's twin, an entry's look-up. -/
import Derived.Deep.LoopGhost
import Derived.Deep.DeepCutAuto
import Derived.IntWalk
import Derived.Deep.QuietTactic
import Derived.BigQuiet
import Derived.Outline
import Derived.Test.YthbjcihdlhkboaaGreatDoorQ22
namespace Go.Proofs.YthbjcihdlhkboaaGreatDoor
set_option linter.unusedSimpArgs false
set_option linter.unusedVariables false
open Go.RowKit Go.Maps Go.Shelf Go.Lib

/-- A slice's block is none of X. -/
def Free (X : Nat → Prop) (v : Value) : Prop := ∀ k, v.ownBlock = some k → ¬ X k
/-- Groups in memory from B on, not in the blocks of X. -/
def GrpX (w : World) (B : Nat) (X : Nat → Prop) (v : Value) (gs : List ByteArray) : Prop := Grp w B v gs ∧ (gs ≠ [] → Free X v)
/-- Entries in memory from B on, nothing of them in the blocks of X. -/
def EntsX (w : World) (B : Nat) (X : Nat → Prop) (v : Value) (l : List Ent) : Prop :=
  ∃ es : List (Ent × Value), es.map (·.1) = l ∧ Seq w B 54 8 v l.length (flatE es) ∧ Free X v ∧ ∀ p ∈ es, GrpX w B X p.2 p.1.groups

section
variable {w w' : World} {B : Nat} {X X' : Nat → Prop} {v : Value} {l : List Ent} {gs : List ByteArray}
theorem GrpX.shape (h : GrpX w B X v gs) : ∃ A c, v = .slice A gs.length c := h.1.shape
theorem Grp.seq (h : Grp w B v gs) (hn : gs ≠ []) : Seq w B 9 1 v gs.length (flatS gs) := by
  rcases h with ⟨e, _⟩ | ⟨_, h⟩
  · exact absurd e hn
  · exact h
theorem Grp.av (h : Grp w B v gs) (hx : ∀ k, X k → k < B ∨ w.heap.size ≤ k) : GrpX w B X v gs := ⟨h, fun hn k e hX => by have := (h.seq hn).lt k e; have := hx k hX; omega⟩
theorem GrpX.keep (h : GrpX w B X v gs) (hk : ∀ k cs, w.heap[k]? = some (.cells cs 9 (0, 0)) → B ≤ k → ¬ X k → w'.heap[k]? = w.heap[k]?) : GrpX w' B X v gs := by
  refine ⟨?_, h.2⟩
  rcases h.1 with h1 | ⟨hn, h1⟩
  · exact .inl h1
  · exact .inr ⟨hn, h1.kept fun k hb => by obtain ⟨cur, hc⟩ := h1.block k hb; exact hk k cur hc (h1.lt k hb).1 (h.2 hn k hb)⟩
theorem GrpX.below (h : GrpX w B X v gs) (hb : Below w.heap.size w w') : GrpX w' B X v gs := h.keep fun k cs hc _ _ => hb.block k (blk_lt hc)
theorem GrpX.lower {B' : Nat} (h : GrpX w B X v gs) (hB : B' ≤ B) : GrpX w B' X v gs := ⟨h.1.lower hB, h.2⟩
theorem GrpX.more (h : GrpX w B X v gs) (hX : ∀ k, X' k → X k ∨ k < B ∨ w.heap.size ≤ k) : GrpX w B X' v gs := ⟨h.1, fun hn k e hx => by
  have := (h.1.seq hn).lt k e
  rcases hX k hx with h1 | h1
  · exact h.2 hn k e h1
  · omega⟩
theorem EntsX.ents (h : EntsX w B X v l) : Ents w B v l := by
  obtain ⟨es, h1, h2, _, h3⟩ := h
  exact ⟨es, h1, h2, fun p hp => (h3 p hp).1⟩
theorem EntsX.shape (h : EntsX w B X v l) : ∃ A c, v = .slice A l.length c := h.ents.shape
theorem EntsX.nil (w : World) (B : Nat) (X : Nat → Prop) : EntsX w B X (.slice none 0 0) [] := ⟨[], rfl, Seq.nil _ _ _ _, fun k hk => (by cases hk), fun p hp => (by cases hp)⟩
/-- Entries stand where other blocks are turned. -/
theorem EntsX.keep (h : EntsX w B X v l) (hk : ∀ k cs T, w.heap[k]? = some (.cells cs T (0, 0)) → (T = 54 ∨ T = 9) → B ≤ k → ¬ X k → w'.heap[k]? = w.heap[k]?) : EntsX w' B X v l := by
  obtain ⟨es, h1, h2, h3, h4⟩ := h
  exact ⟨es, h1, h2.kept fun k hb => by obtain ⟨cur, hc⟩ := h2.block k hb; exact hk k _ _ hc (.inl rfl) (h2.lt k hb).1 (h3 k hb), h3, fun p hp => (h4 p hp).keep fun k cur hc hB hx => hk k _ _ hc (.inr rfl) hB hx⟩
theorem EntsX.below (h : EntsX w B X v l) (hb : Below w.heap.size w w') : EntsX w' B X v l := h.keep fun k cs T hc _ _ _ => hb.block k (blk_lt hc)
theorem EntsX.more (h : EntsX w B X v l) (hX : ∀ k, X' k → X k ∨ k < B ∨ w.heap.size ≤ k) : EntsX w B X' v l := by
  obtain ⟨es, h1, h2, h3, h4⟩ := h
  refine ⟨es, h1, h2, fun k e hx => ?_, fun p hp => (h4 p hp).more hX⟩
  have := h2.lt k e
  rcases hX k hx with h5 | h5
  · exact h3 k e h5
  · omega
theorem Ents.av (h : Ents w B v l) (hx : ∀ k, X k → k < B ∨ w.heap.size ≤ k) : EntsX w B X v l := by
  obtain ⟨es, h1, h2, h3⟩ := h
  exact ⟨es, h1, h2, fun k e hX => by have := h2.lt k e; have := hx k hX; omega, fun p hp => (h3 p hp).av hx⟩
/-- One of the entries. -/
theorem EntsX.get {A : Option Addr} {c : Nat} (h : EntsX w B X (.slice A l.length c) l) {k : Nat} {e : Ent} (hk : l[k]? = some e) :
    ∃ b off g, A = some ⟨b, off, none⟩ ∧ b < w.heap.size ∧ GrpX w B X g e.groups ∧ ∀ j, j < 8 → w.cell? ⟨b, off + k * 8 + j, none⟩ = (e.cells g)[j]? := by
  obtain ⟨es, e1, hs, _, hg⟩ := h
  obtain ⟨hlt, he⟩ := List.getElem?_eq_some_iff.1 hk
  have hlen : es.length = l.length := by rw [← e1]; simp
  have hel : k < es.length := by omega
  obtain ⟨b, off, cap, hv, hb, hlt2, _⟩ := hs.form (by omega)
  cases hv
  have hee : es[k].1 = e := by subst e1; simpa using he
  refine ⟨b, off, es[k].2, rfl, hlt2, by rw [← hee]; exact hg _ (List.getElem_mem hel), fun j hj => ?_⟩
  rw [Nat.add_assoc, hs.cell _ (by omega), ← hee]
  exact flatE_get (List.getElem?_eq_getElem hel) hj
end

/-- The reference's roster in memory, nothing of its entries in the blocks of X. -/
structure QAt (w : World) (B : Nat) (X : Nat → Prop) (qb : Nat) (R : RS) : Prop where
  nm : RNm R
  box : ∃ v, w.heap[qb]? = some (.cells #[.int .i64 R.items, .int .i64 R.asks, .int .u64 R.ver, .int .u64 R.next, v] 129) ∧ EntsX w B X v R.rows
  lo : B ≤ qb

section
variable {w w' : World} {B qb : Nat} {X X' : Nat → Prop} {R : RS}
theorem QAt.keep (h : QAt w B X qb R) (hq : w'.heap[qb]? = w.heap[qb]?) (hk : ∀ k cs T, w.heap[k]? = some (.cells cs T (0, 0)) → (T = 54 ∨ T = 9) → B ≤ k → ¬ X k → w'.heap[k]? = w.heap[k]?) : QAt w' B X qb R where
  nm := h.nm
  box := by
    obtain ⟨v, h1, h2⟩ := h.box
    exact ⟨v, hq.trans h1, h2.keep hk⟩
  lo := h.lo
theorem QAt.lt (h : QAt w B X qb R) : qb < w.heap.size := by
  obtain ⟨v, h1, _⟩ := h.box
  exact blk_lt h1
theorem QAt.below (h : QAt w B X qb R) (hb : Below w.heap.size w w') : QAt w' B X qb R := h.keep (hb.block _ h.lt) fun k cs T hc _ _ _ => hb.block k (blk_lt hc)
theorem QAt.more (h : QAt w B X qb R) (hX : ∀ k, X' k → X k ∨ k < B ∨ w.heap.size ≤ k) : QAt w B X' qb R where
  nm := h.nm
  box := by
    obtain ⟨v, h1, h2⟩ := h.box
    exact ⟨v, h1, h2.more hX⟩
  lo := h.lo
theorem QAt.upd (h : QAt w B X qb R) {C : Nat} {ks : Nat → Prop} (hu : Upd C ks w w') (hC : w.heap.size ≤ C) (hq : ¬ ks qb) (hk : ∀ k cs T, ks k → w.heap[k]? = some (.cells cs T (0, 0)) → X k ∨ T ≠ 54 ∧ T ≠ 9) : QAt w' B X qb R :=
  h.keep (hu.block _ (by have := h.lt; omega) hq) fun k cs T hc hf hB hx => hu.block k (by have := blk_lt hc; omega) (fun e => by
    rcases hk k cs T e hc with h1 | ⟨a, b⟩
    · exact hx h1
    · rcases hf with hf | hf
      · exact a hf
      · exact b hf)
theorem QAt.lower {B' : Nat} (h : QAt w B X qb R) (hB : B' ≤ B) : QAt w B' X qb R where
  nm := h.nm
  box := by
    obtain ⟨v, h1, es, e1, e2, e3, e4⟩ := h.box
    exact ⟨v, h1, es, e1, e2.lower hB, e3, fun p hp => (e4 p hp).lower hB⟩
  lo := Nat.le_trans hB h.lo
end

section
variable {w w' : World} {B qb : Nat} {X : Nat → Prop} {R : RS}
/-- What the walks read of it. -/
theorem QAt.open (h : QAt w B X qb R) : ∃ A c, w.heap[qb]? = some (.cells #[.int .i64 R.items, .int .i64 R.asks, .int .u64 R.ver, .int .u64 R.next, .slice A R.rows.length c] 129) ∧ EntsX w B X (.slice A R.rows.length c) R.rows := by
  obtain ⟨v, h1, h2⟩ := h.box
  obtain ⟨A, c, rfl⟩ := h2.shape
  exact ⟨A, c, h1, h2⟩
end

set_option maxRecDepth 100000 in
set_option maxHeartbeats 4000000 in
theorem q16at_any {w : World} {B qb : Nat} {X : Nat → Prop} {R : RS} (h : QAt w B X qb R) (x : ByteArray) (hn : R.rows.length ≤ 1000000) :
    Calls Tryz.prog 142 #[.pointer (some ⟨qb, 0, none⟩), .string x] w fun e w' => e = .returned (.tuple #[.int .i64 (R.at x : Nat), .bool (R.get x).isSome]) ∧ Below w.heap.size w w' := by
  obtain ⟨A, c, hc, hE⟩ := h.open
  have c4 : w.cell? ⟨qb, 4, none⟩ = some (.slice A R.rows.length c) := blk_cell hc 4
  have hi : (R.get x).isSome = Srt.isAt Ent.contact R.rows x := (h.nm.is x).symm
  rw [hi]
  obtain ⟨p, hp⟩ : ∃ p, R.at x = p := ⟨_, rfl⟩
  obtain ⟨i, hi⟩ : ∃ i, Srt.isAt Ent.contact R.rows x = i := ⟨_, rfl⟩
  rw [hp, hi]
  obtain ⟨l, hl⟩ : ∃ l, R.rows = l := ⟨_, rfl⟩
  rw [hl] at hE hn c4 hi
  have hp2 : Srt.pos Ent.contact l x = p := by rw [← hl]; exact hp
  have HE := Lib.hid hE
  have HN := Lib.hid hn
  have HP := Lib.hid hp2
  have HI := Lib.hid hi
  clear h hc hE hn hp hi hl hp2
  go_enter Tryz.func142, Tryz.ntmps142
  go_wp2_with fail
  go_loopg [6] l.length (fun g s6 wx => ∃ k : Nat, k ≤ l.length ∧ g = l.length - k ∧ s6 = .int .i64 k ∧ w = wx ∧ ∀ j r, j < k → l[j]? = some r → Srt.ltS r.contact x = true)
  case atStart => exact ⟨0, Nat.zero_le _, rfl, rfl, rfl, fun j r hj => by omega⟩
  case round =>
    obtain ⟨k, hk, hgk, rfl, rfl, hlt⟩ := hrel
    have HL := Lib.hid (And.intro hlt hgk)
    have hkn := HN.out
    have t0 : (0 : Int) ≤ (k : Int) := by omega
    clear hlt hgk
    by_cases hk1 : k < l.length
    · have t1 : decide (k < l.length) = true := by simpa using hk1
      have t2 : (k : Int) < (l.length : Int) := by omega
      obtain ⟨r, hr⟩ : ∃ r, l[k]? = some r := ⟨_, List.getElem?_eq_getElem hk1⟩
      obtain ⟨b, off, g, rfl, hb, _, hcell⟩ := HE.out.get hr
      have y0 : w.cell? ⟨b, off + k * 8, none⟩ = some (.string r.contact) := hcell 0 (by decide)
      have HRR := Lib.hid hr
      clear hr hkn hcell
      cases hl : Srt.ltS r.contact x with
      | true =>
        have hw : IntKind.i64.wrap ((k : Int) + 1) = (k : Int) + 1 := IntWalk.i64_in _ (by have := HN.out; omega)
        unfold Srt.ltS at hl
        go_wp2_with fail
        have HLL := Lib.hid hl
        clear hl
        go_roundg (l.length - (k + 1))
        case measure => have := HL.out.2; omega
        case rel =>
          refine ⟨k + 1, by omega, rfl, by go_num, rfl, fun j q hj hq => ?_⟩
          by_cases e : j = k
          · subst e
            rw [HRR.out] at hq
            cases hq
            exact HLL.out
          · exact HL.out.1 j q (by omega) hq
      | false =>
        have hpk : p = k := by
          rw [← HP.out]
          exact Srt.pos_eq (by omega) HL.out.1 (fun q hq => by rw [HRR.out] at hq; cases hq; exact hl)
        have hik : i = (r.contact.toList == x.toList) := by
          rw [← HI.out]
          unfold Srt.isAt
          rw [show Srt.pos Ent.contact l x = k from HP.out.trans hpk, HRR.out]
        have HX := Lib.hid (And.intro hpk hik)
        clear hpk hik
        unfold Srt.ltS at hl
        go_wp2_with fail
        go_quiet (fail)
        go_wp2_with fail
        go_ret2
        exact ⟨by rw [HX.out.1, HX.out.2]; rfl, below_drewNs _ _⟩
    · have t1 : decide (k < l.length) = false := by simpa using hk1
      have t2 : decide ((k : Int) < (l.length : Int)) = false := by simp; omega
      have hpk : p = k := by
        rw [← HP.out]
        exact Srt.pos_eq (by omega) HL.out.1 (fun q hq => by
          have := (List.getElem?_eq_some_iff.1 hq).1
          omega)
      have hik : i = false := by
        rw [← HI.out]
        unfold Srt.isAt
        rw [show Srt.pos Ent.contact l x = k from HP.out.trans hpk, List.getElem?_eq_none (by omega)]
      have HX := Lib.hid (And.intro hpk hik)
      clear hpk hik hkn
      go_wp2_with fail
      go_quiet (fail)
      go_wp2_with fail
      go_ret2
      exact ⟨by rw [HX.out.1, HX.out.2]; rfl, below_drewNs _ _⟩

/-- How many of the first k are items. -/
theorem count_step {l : List Ent} {k : Nat} {r : Ent} (hr : l[k]? = some r) : ((l.take (k + 1)).filter (·.kept)).length = ((l.take k).filter (·.kept)).length + if r.kept = true then 1 else 0 := by
  obtain ⟨hk, rfl⟩ := List.getElem?_eq_some_iff.1 hr
  rw [List.take_succ_eq_append_getElem hk, List.filter_append, List.length_append]
  cases h : (l[k]).kept <;> simp [h]

set_option maxRecDepth 100000 in
set_option maxHeartbeats 4000000 in
theorem q16count_any {w : World} {B qb : Nat} {X : Nat → Prop} {R : RS} (h : QAt w B X qb R) (hn : R.rows.length ≤ 1000000) :
    Calls Tryz.prog 96 #[.pointer (some ⟨qb, 0, none⟩)] w fun e w' => e = .returned (.tuple #[.int .i64 (R.kept : Nat), .int .i64 ((R.list.length : Int) - (R.kept : Int))]) ∧ w' = w := by
  obtain ⟨A, c, hc, hE⟩ := h.open
  have c4 : w.cell? ⟨qb, 4, none⟩ = some (.slice A R.rows.length c) := blk_cell hc 4
  have hkl := R.kept_le
  rw [← h.nm.len, ← h.nm.count] at *
  obtain ⟨l, hl⟩ : ∃ l, R.rows = l := ⟨_, rfl⟩
  rw [hl] at hE hn c4 ⊢
  have HE := Lib.hid hE
  have HN := Lib.hid hn
  clear h hc hE hn hl hkl
  go_enter Tryz.func96, Tryz.ntmps96
  go_wp2_with fail
  go_loopg [4, 5, 6] l.length (fun g s4 s5 s6 wx => ∃ k : Nat, k ≤ l.length ∧ g = l.length - k ∧ s6 = .int .i64 k ∧ s4 = .int .i64 (((l.take k).filter (·.kept)).length : Nat) ∧ s5 = .int .i64 ((k : Int) - (((l.take k).filter (·.kept)).length : Nat)) ∧ w = wx)
  case atStart => exact ⟨0, Nat.zero_le _, rfl, rfl, rfl, rfl, rfl⟩
  case round =>
    obtain ⟨k, hk, hgk, rfl, rfl, rfl, rfl⟩ := hrel
    have t0 : (0 : Int) ≤ (k : Int) := by omega
    have hcl : ((l.take k).filter (·.kept)).length ≤ k := Nat.le_trans (List.length_filter_le _ _) (by rw [List.length_take]; omega)
    by_cases hk1 : k < l.length
    · have t2 : (k : Int) < (l.length : Int) := by omega
      obtain ⟨r, hr⟩ : ∃ r, l[k]? = some r := ⟨_, List.getElem?_eq_getElem hk1⟩
      obtain ⟨b, off, g, rfl, hb, _, hcell⟩ := HE.out.get hr
      have y1 : w.cell? ⟨b, off + k * 8 + 1, none⟩ = some (.bool r.kept) := hcell 1 (by decide)
      have hst := count_step hr
      have hw : IntKind.i64.wrap ((k : Int) + 1) = (k : Int) + 1 := IntWalk.i64_in _ (by have := HN.out; omega)
      generalize ((l.take k).filter (·.kept)).length = m at *
      have hw2 : IntKind.i64.wrap ((m : Int) + 1) = (m : Int) + 1 := IntWalk.i64_in _ (by have := HN.out; omega)
      have hw3 : IntKind.i64.wrap ((k : Int) - (m : Int) + 1) = (k : Int) - (m : Int) + 1 := IntWalk.i64_in _ (by have := HN.out; omega)
      have HG := Lib.hid (And.intro hgk hcl)
      clear hcell hr hgk hcl
      cases hkp : r.kept with
      | true =>
        rw [hkp] at hst y1
        have HS := Lib.hid hst
        clear hst hkp
        go_wp2_with fail
        go_roundg (l.length - (k + 1))
        case measure => have := HG.out; omega
        case rel => exact ⟨k + 1, by omega, rfl, by go_num, by rw [HS.out]; simp, by rw [HS.out]; simp <;> omega, rfl⟩
      | false =>
        rw [hkp] at hst y1
        have HS := Lib.hid hst
        clear hst hkp
        go_wp2_with fail
        go_roundg (l.length - (k + 1))
        case measure => have := HG.out; omega
        case rel => exact ⟨k + 1, by omega, rfl, by go_num, by rw [HS.out]; simp, by rw [HS.out]; simp <;> omega, rfl⟩
    · obtain rfl : k = l.length := by omega
      have t2 : ¬ ((l.length : Nat) : Int) < (l.length : Int) := by omega
      rw [List.take_length]
      go_wp2_with fail
      go_ret2
      exact ⟨rfl, rfl⟩

set_option maxRecDepth 100000 in
set_option maxHeartbeats 4000000 in
theorem q16full_any {w : World} {B qb : Nat} {X : Nat → Prop} {R : RS} (h : QAt w B X qb R) (hn : R.rows.length ≤ 1000000) :
    Calls Tryz.prog 100 #[.pointer (some ⟨qb, 0, none⟩)] w fun e w' => e = .returned (.bool (decide (R.items ≤ (R.kept : Nat)))) ∧ w' = w := by
  have HC := Lib.hid (q16count_any h hn)
  obtain ⟨A, c, hc, hE⟩ := h.open
  have c0 : w.cell? ⟨qb, 0, none⟩ = some (.int .i64 R.items) := blk_cell hc 0
  clear h hc hE hn
  go_enter Tryz.func100, Tryz.ntmps100
  go_wp2_with fail
  refine HC.out.mono ?_
  rintro e w1 ⟨rfl, hw1⟩
  obtain rfl := hw1.symm
  clear HC
  go_wp2_with fail
  go_ret
  exact ⟨rfl, rfl⟩
end Go.Proofs.YthbjcihdlhkboaaGreatDoor

namespace Go.Proofs.YthbjcihdlhkboaaGreatDoor
set_option linter.unusedSimpArgs false
set_option linter.unusedVariables false
open Go.RowKit Go.Maps Go.Shelf Go.Lib

theorem RS.new_rows (x y : Int) : (RS.new x y).rows = [] := by simp [RS.rows, RS.all, RS.keys, RS.new]
theorem q16new_any (items asks : Int) (h0 : 0 ≤ items) (h1 : items ≤ 10000) (h2 : 0 ≤ asks) (h3 : asks ≤ 10000) (w : World) (X : Nat → Prop) :
    Calls Tryz.prog 29 #[.int .i64 items, .int .i64 asks] w fun e w' => e = .returned (.tuple #[.pointer (some ⟨w.heap.size, 0, none⟩), .bool true]) ∧ Below w.heap.size w w' ∧ QAt w' w.heap.size X w.heap.size (RS.new items asks) := by
  have b0 : decide (items < 0) = false := by simp; omega
  have b1 : decide (10000 < items) = false := by simp; omega
  have b2 : decide (asks < 0) = false := by simp; omega
  have b3 : decide (10000 < asks) = false := by simp; omega
  go_enter Tryz.func29, Tryz.ntmps29
  go_wp2_with fail
  go_ret2
  exact ⟨rfl, (Below.refl _ _).alloc (Nat.le_refl _) _, RNm.new _ _, ⟨_, blk_new' _ rfl, by rw [RS.new_rows]; exact EntsX.nil _ _ _⟩, Nat.le_refl _⟩

/-- Bounds that are none. -/
def badQ (x y : Int) : Prop := x < 0 ∨ 10000 < x ∨ y < 0 ∨ 10000 < y
theorem badQ_way {x y : Int} (h : badQ x y) : (decide (x < 0) = true) ∨ (decide (x < 0) = false ∧ decide (10000 < x) = true) ∨ (decide (x < 0) = false ∧ decide (10000 < x) = false ∧ decide (y < 0) = true) ∨ (decide (x < 0) = false ∧ decide (10000 < x) = false ∧ decide (y < 0) = false ∧ decide (10000 < y) = true) := by
  unfold badQ at h
  simp only [decide_eq_true_eq, decide_eq_false_iff_not]
  omega
theorem q16new_bad (items asks : Int) (h : badQ items asks) (w : World) :
    Calls Tryz.prog 29 #[.int .i64 items, .int .i64 asks] w fun e w' => e = .returned (.tuple #[.pointer none, .bool false]) ∧ Below w.heap.size w w' := by
  rcases badQ_way h with h | ⟨h1, h⟩ | ⟨h1, h2, h⟩ | ⟨h1, h2, h3, h⟩
  all_goals
    go_enter Tryz.func29, Tryz.ntmps29
    go_wp2_with fail
    go_ret2
    exact ⟨rfl, Below.refl _ _⟩
theorem rnew_bad (items asks : Int) (h : badQ items asks) (w : World) :
    Calls Tryz.prog 17 #[.int .i64 items, .int .i64 asks] w fun e w' => e = .returned (.tuple #[.pointer none, .int .i64 1]) ∧ Below w.heap.size w w' := by
  rcases badQ_way h with h | ⟨h1, h⟩ | ⟨h1, h2, h⟩ | ⟨h1, h2, h3, h⟩
  all_goals
    go_enter Tryz.func17, Tryz.ntmps17
    go_wp2_with fail
    go_ret2
    exact ⟨rfl, Below.refl _ _⟩

/-- Texts, to be appended. -/
theorem Strs.srcOf {w : World} {A : Option Addr} {n c : Nat} {gs : List ByteArray} (h : Strs w (.slice A n c) gs) : Src w 1 A gs.length (flatS gs) := by
  refine ⟨by simp [flatS_len], fun u hu => flatS_one hu, fun h0 => ?_⟩
  obtain ⟨⟨A', cap, hv, hf⟩, hm⟩ := h
  obtain ⟨rfl, rfl, rfl⟩ : A = A' ∧ n = gs.length ∧ c = cap := by simpa using hv
  obtain ⟨b, off, hA, hlb, hc⟩ := hf h0
  subst hA
  refine ⟨_, rfl, fun j u hu => ?_⟩
  have hj : j < gs.length := by rw [← flatS_len gs]; exact (List.getElem?_eq_some_iff.1 hu).1
  rw [Addr.add_lit, hc j hj, ← hu]
  simp [flatS, List.getD_eq_getElem?_getD, List.getElem?_eq_getElem hj]

set_option maxRecDepth 100000 in
set_option maxHeartbeats 4000000 in
theorem q16twin_any (w : World) (e : Ent) (g : Value) (hg : Strs w g e.groups) (hl : e.groups.length ≤ 1000000) :
    Calls Tryz.prog 95 #[e.val g] w fun r w' => (∃ A c, r = .returned (e.val (.slice A e.groups.length c)) ∧ Grp w' w.heap.size (.slice A e.groups.length c) e.groups) ∧ Below w.heap.size w w' := by
  obtain ⟨contact, kept, name, groups, ⟨o, n, i, m⟩⟩ := e
  simp only at hg hl ⊢
  obtain ⟨GA, gcap, hv⟩ : ∃ A cap, g = .slice A groups.length cap := let ⟨⟨A, cap, h, _⟩, _⟩ := hg; ⟨A, cap, h⟩
  subst hv
  obtain ⟨o8, ho8⟩ : ∃ o8 : Obj, (.cells #[.string contact, .bool kept, .string name, .slice GA groups.length gcap, .int .i64 o, .int .u64 n, .int .i64 i, .int .u64 m] 54) = o8 := ⟨_, rfl⟩
  obtain ⟨z8, hz8⟩ : ∃ z8 : Obj, (.cells #[.string ⟨#[]⟩, .bool false, .string ⟨#[]⟩, .slice none 0 0, .int .i64 0, .int .u64 0, .int .i64 0, .int .u64 0] 54) = z8 := ⟨_, rfl⟩
  have hbA : Below w.heap.size w (((w.alloc o8).alloc z8).alloc (.cells #[] 9)) := (((Below.refl _ _).alloc (Nat.le_refl _) _).alloc (by simp) _).alloc (by simp <;> omega) _
  have hs := (hg.below hbA).srcOf
  have hz : Seq (((w.alloc o8).alloc z8).alloc (.cells #[] 9)) (w.heap.size + 2) 9 1 (.slice (some ⟨w.heap.size + 1 + 1, 0, none⟩) 0 0) 0 [] :=
    ⟨rfl, .inr ⟨w.heap.size + 1 + 1, 0, 0, #[], rfl, by omega, blk_new' _ (by simp), Nat.le_refl _, Nat.zero_le _, Nat.zero_le _, rfl⟩⟩
  have hb0 : (((w.alloc o8).alloc z8).alloc (.cells #[] 9)).heap[w.heap.size]? = some o8 := blk_alloc (blk_alloc (blk_new _ _) _) _
  have hb1 : (((w.alloc o8).alloc z8).alloc (.cells #[] 9)).heap[w.heap.size + 1]? = some z8 := blk_alloc (blk_new' _ (by simp)) _
  rw [← ho8, ← hz8] at hbA hs hz hb0 hb1
  have HS := Lib.hid hs
  have HZ := Lib.hid hz
  have HL := Lib.hid hl
  have HBB := Lib.hid (And.intro hbA (And.intro hb0 hb1))
  clear hs hz hg hl hbA hb0 hb1 ho8 hz8
  obtain ⟨i0, hi, hz0, hz1, hz2⟩ := info_parts strInfo
  go_enter Tryz.func95, Tryz.ntmps95
  go_wp2_with (at_builtin; refine wpList_append_src _ rfl _ _ 32 rfl (w.heap.size + 2) 9 i0 (.string ⟨#[]⟩) 1 16 Tryz.underlying32 hi hz0 hz1 hz2 rfl _ 0 [] rfl HZ.out _ groups.length _ (flatS groups) rfl HS.out ?c1 ?c2 ?c3 ?_)
  case c1 => have := HL.out; unfold maxLen; omega
  case c2 => have := HL.out; omega
  case c3 => simp <;> omega
  intro v' w1 hseq hgrow
  try simp only [Nat.zero_add, List.nil_append] at hseq
  have hbw : Below (w.heap.size + 2) _ w1 := (Below.refl _ _).grown hgrow (by simp <;> omega) (by intro k hk; simp [Value.ownBlock] at hk; omega)
  have hB : Below w.heap.size w w1 := HBB.out.1.trans (hbw.mono (by omega))
  have B0 := blk_below HBB.out.2.1 hbw (by omega)
  have B1 := blk_below HBB.out.2.2 hbw (by omega)
  obtain ⟨A, c, rfl⟩ := hseq.shape
  have y0 : w1.cell? ⟨w.heap.size, 0, none⟩ = some (.string contact) := blk_cell B0 0
  have x0 : w1.cell? ⟨w.heap.size + 1, 0, none⟩ = some (.string ⟨#[]⟩) := blk_cell B1 0
  have z0 : w1.frozen? ⟨w.heap.size + 1, 0, none⟩ = false := blk_frozen B1 0
  have y1 : w1.cell? ⟨w.heap.size, 1, none⟩ = some (.bool kept) := blk_cell B0 1
  have x1 : w1.cell? ⟨w.heap.size + 1, 1, none⟩ = some (.bool false) := blk_cell B1 1
  have z1 : w1.frozen? ⟨w.heap.size + 1, 1, none⟩ = false := blk_frozen B1 1
  have y2 : w1.cell? ⟨w.heap.size, 2, none⟩ = some (.string name) := blk_cell B0 2
  have x2 : w1.cell? ⟨w.heap.size + 1, 2, none⟩ = some (.string ⟨#[]⟩) := blk_cell B1 2
  have z2 : w1.frozen? ⟨w.heap.size + 1, 2, none⟩ = false := blk_frozen B1 2
  have y3 : w1.cell? ⟨w.heap.size, 3, none⟩ = some (.slice GA groups.length gcap) := blk_cell B0 3
  have x3 : w1.cell? ⟨w.heap.size + 1, 3, none⟩ = some (.slice none 0 0) := blk_cell B1 3
  have z3 : w1.frozen? ⟨w.heap.size + 1, 3, none⟩ = false := blk_frozen B1 3
  have y4 : w1.cell? ⟨w.heap.size, 4, none⟩ = some (.int .i64 o) := blk_cell B0 4
  have x4 : w1.cell? ⟨w.heap.size + 1, 4, none⟩ = some (.int .i64 0) := blk_cell B1 4
  have z4 : w1.frozen? ⟨w.heap.size + 1, 4, none⟩ = false := blk_frozen B1 4
  have y5 : w1.cell? ⟨w.heap.size, 5, none⟩ = some (.int .u64 n) := blk_cell B0 5
  have x5 : w1.cell? ⟨w.heap.size + 1, 5, none⟩ = some (.int .u64 0) := blk_cell B1 5
  have z5 : w1.frozen? ⟨w.heap.size + 1, 5, none⟩ = false := blk_frozen B1 5
  have y6 : w1.cell? ⟨w.heap.size, 6, none⟩ = some (.int .i64 i) := blk_cell B0 6
  have x6 : w1.cell? ⟨w.heap.size + 1, 6, none⟩ = some (.int .i64 0) := blk_cell B1 6
  have z6 : w1.frozen? ⟨w.heap.size + 1, 6, none⟩ = false := blk_frozen B1 6
  have y7 : w1.cell? ⟨w.heap.size, 7, none⟩ = some (.int .u64 m) := blk_cell B0 7
  have x7 : w1.cell? ⟨w.heap.size + 1, 7, none⟩ = some (.int .u64 0) := blk_cell B1 7
  have z7 : w1.frozen? ⟨w.heap.size + 1, 7, none⟩ = false := blk_frozen B1 7
  have f3 : w1.frozen? ⟨w.heap.size, 3, none⟩ = false := blk_frozen B0 3
  have hgr2 : Grp w1 (w.heap.size + 1 + 1) (.slice A groups.length c) groups := grp_of_seq hseq
  have BB := blk_set8 (blk_set_other B1 (a := (⟨w.heap.size, 3, none⟩ : Addr)) (.slice A groups.length c) (by show w.heap.size + 1 ≠ w.heap.size; omega)) (.string contact) (.bool kept) (.string name) (.slice A groups.length c) (.int .i64 o) (.int .u64 n) (.int .i64 i) (.int .u64 m)
  have BL := Lib.hid (below_set8 (show Below w.heap.size w (w1.setCell ⟨w.heap.size, 3, none⟩ (.slice A groups.length c)) from hB.setCell (Nat.le_refl _) _) (b := w.heap.size + 1) (by omega) (.string contact) (.bool kept) (.string name) (.slice A groups.length c) (.int .i64 o) (.int .u64 n) (.int .i64 i) (.int .u64 m))
  have BU := upd_set8 (w0 := w1) (B := w1.heap.size) (ks := fun k => k < w.heap.size + 2) (b := w.heap.size + 1) (w := (w1.setCell ⟨w.heap.size, 3, none⟩ (.slice A groups.length c))) (Upd.setCell (ks := fun k => k < w.heap.size + 2) (Upd.refl _ _ _) (a := (⟨w.heap.size, 3, none⟩ : Addr)) (.inl (by show w.heap.size < w.heap.size + 2; omega)) _) (.inl (by omega)) (.string contact) (.bool kept) (.string name) (.slice A groups.length c) (.int .i64 o) (.int .u64 n) (.int .i64 i) (.int .u64 m)
  have HG := Lib.hid (And.intro hgr2 BU)
  clear hB hgr2 BU B0 B1 HS HZ HBB hseq hgrow hbw
  go_wp2_with fail
  generalize (((((((((w1.setCell ⟨w.heap.size, 3, none⟩ (.slice A groups.length c)).setCell ⟨w.heap.size + 1, 0, none⟩ (.string contact)).setCell ⟨w.heap.size + 1, 1, none⟩ (.bool kept)).setCell ⟨w.heap.size + 1, 2, none⟩ (.string name)).setCell ⟨w.heap.size + 1, 3, none⟩ (.slice A groups.length c)).setCell ⟨w.heap.size + 1, 4, none⟩ (.int .i64 o)).setCell ⟨w.heap.size + 1, 5, none⟩ (.int .u64 n)).setCell ⟨w.heap.size + 1, 6, none⟩ (.int .i64 i)).setCell ⟨w.heap.size + 1, 7, none⟩ (.int .u64 m)) = WW at *
  have k0 := blk_cell BB 0
  have k1 := blk_cell BB 1
  have k2 := blk_cell BB 2
  have k3 := blk_cell BB 3
  have k4 := blk_cell BB 4
  have k5 := blk_cell BB 5
  have k6 := blk_cell BB 6
  have k7 := blk_cell BB 7
  simp [bodyPost, results, Tryz.results95, go_sem, *]
  exact ⟨⟨A, c, ⟨rfl, rfl⟩, (HG.out.1.kept fun k cur hk hB => HG.out.2.block k (blk_lt hk) (by omega)).lower (by omega)⟩, BL.out⟩

set_option maxRecDepth 100000 in
set_option maxHeartbeats 4000000 in
theorem q16entry_yes {w : World} {B qb : Nat} {X : Nat → Prop} {R : RS} (h : QAt w B X qb R) (s : ByteArray) (hn : R.rows.length ≤ 1000000) (e : Ent) (hg : R.get s = some e) (hgl : e.groups.length ≤ 1000000) :
    Calls Tryz.prog 99 #[.pointer (some ⟨qb, 0, none⟩), .string s] w fun r w' => (∃ A c, r = .returned (.tuple #[e.val (.slice A e.groups.length c), .bool true]) ∧ Grp w' w.heap.size (.slice A e.groups.length c) e.groups) ∧ Below w.heap.size w w' := by
  obtain ⟨z8, hz8⟩ : ∃ z8 : Obj, (.cells #[.string ⟨#[]⟩, .bool false, .string ⟨#[]⟩, .slice none 0 0, .int .i64 0, .int .u64 0, .int .i64 0, .int .u64 0] 54) = z8 := ⟨_, rfl⟩
  have hbA : Below w.heap.size w (w.alloc z8) := (Below.refl _ _).alloc (Nat.le_refl _) _
  have hb0 : (w.alloc z8).heap[w.heap.size]? = some z8 := blk_new _ _
  have C := q16at_any (h.below hbA) s hn
  rw [hg] at C
  simp only [Option.isSome_some, Option.isSome_none] at C
  have HQ := Lib.hid (h.below hbA)
  rw [← hz8] at hbA hb0 C HQ
  have HC := Lib.hid C
  have HB := Lib.hid (And.intro hbA hb0)
  have HGET := Lib.hid hg
  have HN := Lib.hid hn
  clear hz8 z8 hbA hb0 C hg
  have HGL := Lib.hid hgl
  clear hgl hn
  obtain ⟨p, hp⟩ : ∃ p, R.at s = p := ⟨_, rfl⟩
  rw [hp] at HC
  have hgp := h.nm.get_at HGET.out
  rw [hp] at hgp
  have HP := Lib.hid hgp
  clear hp hgp h
  go_enter Tryz.func99, Tryz.ntmps99
  go_wp2_with fail
  refine HC.out.mono ?_
  rintro r w1 ⟨rfl, hb1⟩
  obtain ⟨A0, c0, hcq, hE⟩ := (HQ.out.below hb1).open
  obtain ⟨b, off, g, rfl, hbl, hgx, hcell⟩ := hE.get HP.out
  obtain ⟨contact, kept, name, groups, ⟨o, n, i, m⟩⟩ := e
  obtain ⟨GA, gcap, rfl⟩ := hgx.shape
  have hlp : p < R.rows.length := (List.getElem?_eq_some_iff.1 HP.out).1
  have t2 : (p : Int) < (R.rows.length : Int) := by omega
  have t0 : (0 : Int) ≤ (p : Int) := by omega
  have c4 : w1.cell? ⟨qb, 4, none⟩ = some (.slice (some ⟨b, off, none⟩) R.rows.length c0) := blk_cell hcq 4
  have y0 : w1.cell? ⟨b, off + p * 8, none⟩ = some (.string contact) := hcell 0 (by decide)
  have y1 : w1.cell? ⟨b, off + p * 8 + 1, none⟩ = some (.bool kept) := hcell 1 (by decide)
  have y2 : w1.cell? ⟨b, off + p * 8 + 2, none⟩ = some (.string name) := hcell 2 (by decide)
  have y3 : w1.cell? ⟨b, off + p * 8 + 3, none⟩ = some (.slice GA groups.length gcap) := hcell 3 (by decide)
  have y4 : w1.cell? ⟨b, off + p * 8 + 4, none⟩ = some (.int .i64 o) := hcell 4 (by decide)
  have y5 : w1.cell? ⟨b, off + p * 8 + 5, none⟩ = some (.int .u64 n) := hcell 5 (by decide)
  have y6 : w1.cell? ⟨b, off + p * 8 + 6, none⟩ = some (.int .i64 i) := hcell 6 (by decide)
  have y7 : w1.cell? ⟨b, off + p * 8 + 7, none⟩ = some (.int .u64 m) := hcell 7 (by decide)
  have HT := Lib.hid (q16twin_any w1 ⟨contact, kept, name, groups, ⟨o, n, i, m⟩⟩ (.slice GA groups.length gcap) hgx.1.strs HGL.out)
  have hbw : Below w.heap.size w w1 := HB.out.1.trans (hb1.mono (by simp))
  have hbx := blk_below HB.out.2 hb1 (by simp)
  have HBX := Lib.hid (And.intro hbw hbx)
  clear hbw hbx hb1 hgx hcell hE hcq HC HQ HB hbl hlp
  go_wp2_with fail
  refine HT.out.mono ?_
  rintro r w2 ⟨⟨A, c, rfl, hgr⟩, hb2⟩
  have hz1 := HBX.out.1.size
  have B0 := blk_below HBX.out.2 hb2 (blk_lt HBX.out.2)
  have hB : Below w.heap.size w w2 := HBX.out.1.trans (hb2.mono hz1)
  have hlt := blk_lt HBX.out.2
  have x0 : w2.cell? ⟨w.heap.size, 0, none⟩ = some (.string ⟨#[]⟩) := blk_cell B0 0
  have z0 : w2.frozen? ⟨w.heap.size, 0, none⟩ = false := blk_frozen B0 0
  have x1 : w2.cell? ⟨w.heap.size, 1, none⟩ = some (.bool false) := blk_cell B0 1
  have z1 : w2.frozen? ⟨w.heap.size, 1, none⟩ = false := blk_frozen B0 1
  have x2 : w2.cell? ⟨w.heap.size, 2, none⟩ = some (.string ⟨#[]⟩) := blk_cell B0 2
  have z2 : w2.frozen? ⟨w.heap.size, 2, none⟩ = false := blk_frozen B0 2
  have x3 : w2.cell? ⟨w.heap.size, 3, none⟩ = some (.slice none 0 0) := blk_cell B0 3
  have z3 : w2.frozen? ⟨w.heap.size, 3, none⟩ = false := blk_frozen B0 3
  have x4 : w2.cell? ⟨w.heap.size, 4, none⟩ = some (.int .i64 0) := blk_cell B0 4
  have z4 : w2.frozen? ⟨w.heap.size, 4, none⟩ = false := blk_frozen B0 4
  have x5 : w2.cell? ⟨w.heap.size, 5, none⟩ = some (.int .u64 0) := blk_cell B0 5
  have z5 : w2.frozen? ⟨w.heap.size, 5, none⟩ = false := blk_frozen B0 5
  have x6 : w2.cell? ⟨w.heap.size, 6, none⟩ = some (.int .i64 0) := blk_cell B0 6
  have z6 : w2.frozen? ⟨w.heap.size, 6, none⟩ = false := blk_frozen B0 6
  have x7 : w2.cell? ⟨w.heap.size, 7, none⟩ = some (.int .u64 0) := blk_cell B0 7
  have z7 : w2.frozen? ⟨w.heap.size, 7, none⟩ = false := blk_frozen B0 7
  have BB := blk_set8 B0 (.string contact) (.bool kept) (.string name) (.slice A groups.length c) (.int .i64 o) (.int .u64 n) (.int .i64 i) (.int .u64 m)
  have BL := Lib.hid (below_set8 hB (b := w.heap.size) (Nat.le_refl _) (.string contact) (.bool kept) (.string name) (.slice A groups.length c) (.int .i64 o) (.int .u64 n) (.int .i64 i) (.int .u64 m))
  have BU := upd_set8 (w0 := w2) (B := w2.heap.size) (ks := fun k => k = w.heap.size) (b := w.heap.size) (w := w2) (Upd.refl _ _ _) (.inl rfl) (.string contact) (.bool kept) (.string name) (.slice A groups.length c) (.int .i64 o) (.int .u64 n) (.int .i64 i) (.int .u64 m)
  have HG := Lib.hid (And.intro hgr (And.intro BU (And.intro hlt hz1)))
  clear hB hgr BU hb2 HT B0 hlt hz1 c4 y0 y1 y2 y3 y4 y5 y6 y7 HBX
  go_wp2_with fail
  generalize ((((((((w2.setCell ⟨w.heap.size, 0, none⟩ (.string contact)).setCell ⟨w.heap.size, 1, none⟩ (.bool kept)).setCell ⟨w.heap.size, 2, none⟩ (.string name)).setCell ⟨w.heap.size, 3, none⟩ (.slice A groups.length c)).setCell ⟨w.heap.size, 4, none⟩ (.int .i64 o)).setCell ⟨w.heap.size, 5, none⟩ (.int .u64 n)).setCell ⟨w.heap.size, 6, none⟩ (.int .i64 i)).setCell ⟨w.heap.size, 7, none⟩ (.int .u64 m)) = WW at *
  have k0 := blk_cell BB 0
  have k1 := blk_cell BB 1
  have k2 := blk_cell BB 2
  have k3 := blk_cell BB 3
  have k4 := blk_cell BB 4
  have k5 := blk_cell BB 5
  have k6 := blk_cell BB 6
  have k7 := blk_cell BB 7
  simp [bodyPost, results, Tryz.results99, go_sem, *]
  exact ⟨⟨A, c, ⟨rfl, rfl⟩, (HG.out.1.kept fun k cur hk hB => HG.out.2.1.block k (blk_lt hk) (by have := HG.out.2.2; omega)).lower HG.out.2.2.2⟩, BL.out⟩

set_option maxRecDepth 100000 in
set_option maxHeartbeats 4000000 in
theorem q16entry_no {w : World} {B qb : Nat} {X : Nat → Prop} {R : RS} (h : QAt w B X qb R) (s : ByteArray) (hn : R.rows.length ≤ 1000000) (hg : R.get s = none) :
    Calls Tryz.prog 99 #[.pointer (some ⟨qb, 0, none⟩), .string s] w fun r w' => (∃ A c, r = .returned (.tuple #[(Ent.new s).val (.slice A (Ent.new s).groups.length c), .bool false]) ∧ Grp w' w.heap.size (.slice A (Ent.new s).groups.length c) (Ent.new s).groups) ∧ Below w.heap.size w w' := by
  obtain ⟨z8, hz8⟩ : ∃ z8 : Obj, (.cells #[.string ⟨#[]⟩, .bool false, .string ⟨#[]⟩, .slice none 0 0, .int .i64 0, .int .u64 0, .int .i64 0, .int .u64 0] 54) = z8 := ⟨_, rfl⟩
  have hbA : Below w.heap.size w (w.alloc z8) := (Below.refl _ _).alloc (Nat.le_refl _) _
  have hb0 : (w.alloc z8).heap[w.heap.size]? = some z8 := blk_new _ _
  have C := q16at_any (h.below hbA) s hn
  rw [hg] at C
  simp only [Option.isSome_some, Option.isSome_none] at C
  have HQ := Lib.hid (h.below hbA)
  rw [← hz8] at hbA hb0 C HQ
  have HC := Lib.hid C
  have HB := Lib.hid (And.intro hbA hb0)
  have HGET := Lib.hid hg
  have HN := Lib.hid hn
  clear hz8 z8 hbA hb0 C hg
  clear hn h HQ
  go_enter Tryz.func99, Tryz.ntmps99
  go_wp2_with fail
  refine HC.out.mono ?_
  rintro r w1 ⟨rfl, hb1⟩
  have hB : Below w.heap.size w w1 := HB.out.1.trans (hb1.mono (by simp))
  have B0 := blk_below HB.out.2 hb1 (by simp)
  have hlt := blk_lt B0
  have x0 : w1.cell? ⟨w.heap.size, 0, none⟩ = some (.string ⟨#[]⟩) := blk_cell B0 0
  have z0 : w1.frozen? ⟨w.heap.size, 0, none⟩ = false := blk_frozen B0 0
  have x1 : w1.cell? ⟨w.heap.size, 1, none⟩ = some (.bool false) := blk_cell B0 1
  have z1 : w1.frozen? ⟨w.heap.size, 1, none⟩ = false := blk_frozen B0 1
  have x2 : w1.cell? ⟨w.heap.size, 2, none⟩ = some (.string ⟨#[]⟩) := blk_cell B0 2
  have z2 : w1.frozen? ⟨w.heap.size, 2, none⟩ = false := blk_frozen B0 2
  have x3 : w1.cell? ⟨w.heap.size, 3, none⟩ = some (.slice none 0 0) := blk_cell B0 3
  have z3 : w1.frozen? ⟨w.heap.size, 3, none⟩ = false := blk_frozen B0 3
  have x4 : w1.cell? ⟨w.heap.size, 4, none⟩ = some (.int .i64 0) := blk_cell B0 4
  have z4 : w1.frozen? ⟨w.heap.size, 4, none⟩ = false := blk_frozen B0 4
  have x5 : w1.cell? ⟨w.heap.size, 5, none⟩ = some (.int .u64 0) := blk_cell B0 5
  have z5 : w1.frozen? ⟨w.heap.size, 5, none⟩ = false := blk_frozen B0 5
  have x6 : w1.cell? ⟨w.heap.size, 6, none⟩ = some (.int .i64 0) := blk_cell B0 6
  have z6 : w1.frozen? ⟨w.heap.size, 6, none⟩ = false := blk_frozen B0 6
  have x7 : w1.cell? ⟨w.heap.size, 7, none⟩ = some (.int .u64 0) := blk_cell B0 7
  have z7 : w1.frozen? ⟨w.heap.size, 7, none⟩ = false := blk_frozen B0 7
  have BB := blk_set8 B0 (.string s) (.bool false) (.string ⟨#[]⟩) (.slice none 0 0) (.int .i64 0) (.int .u64 0) (.int .i64 0) (.int .u64 0)
  have BL := Lib.hid (below_set8 hB (b := w.heap.size) (Nat.le_refl _) (.string s) (.bool false) (.string ⟨#[]⟩) (.slice none 0 0) (.int .i64 0) (.int .u64 0) (.int .i64 0) (.int .u64 0))
  clear hB hb1 HC HB B0 hlt
  go_wp2_with fail
  generalize ((((((((w1.setCell ⟨w.heap.size, 0, none⟩ (.string s)).setCell ⟨w.heap.size, 1, none⟩ (.bool false)).setCell ⟨w.heap.size, 2, none⟩ (.string ⟨#[]⟩)).setCell ⟨w.heap.size, 3, none⟩ (.slice none 0 0)).setCell ⟨w.heap.size, 4, none⟩ (.int .i64 0)).setCell ⟨w.heap.size, 5, none⟩ (.int .u64 0)).setCell ⟨w.heap.size, 6, none⟩ (.int .i64 0)).setCell ⟨w.heap.size, 7, none⟩ (.int .u64 0)) = WW at *
  have k0 := blk_cell BB 0
  have k1 := blk_cell BB 1
  have k2 := blk_cell BB 2
  have k3 := blk_cell BB 3
  have k4 := blk_cell BB 4
  have k5 := blk_cell BB 5
  have k6 := blk_cell BB 6
  have k7 := blk_cell BB 7
  simp [bodyPost, results, Tryz.results99, go_sem, *]
  exact ⟨⟨none, 0, by simp [Ent.new], Grp.nil _ _⟩, BL.out⟩

/-- An entry's look-up. -/
theorem q16entry_any {w : World} {B qb : Nat} {X : Nat → Prop} {R : RS} (h : QAt w B X qb R) (s : ByteArray) (hn : R.rows.length ≤ 1000000) (hgl : (R.entry s).groups.length ≤ 1000000) :
    Calls Tryz.prog 99 #[.pointer (some ⟨qb, 0, none⟩), .string s] w fun r w' => (∃ A c, r = .returned (.tuple #[(R.entry s).val (.slice A (R.entry s).groups.length c), .bool (R.get s).isSome]) ∧ Grp w' w.heap.size (.slice A (R.entry s).groups.length c) (R.entry s).groups) ∧ Below w.heap.size w w' := by
  unfold RS.entry at *
  cases hg : R.get s with
  | none => exact q16entry_no h s hn hg
  | some e => rw [hg] at hgl; exact q16entry_yes h s hn e hg hgl
end Go.Proofs.YthbjcihdlhkboaaGreatDoor
