/- The reference's lists in memory; where a list stands, whether there is one. -/
import Derived.Test.YthbjcihdlhkboaaGreatDoorPx0
import Derived.Test.YthbjcihdlhkboaaGreatDoorUpd
import Derived.Test.YthbjcihdlhkboaaGreatDoorSeq3
import Derived.Test.YthbjcihdlhkboaaGreatDoorSm1
import Derived.Deep.LoopGhost
import Derived.Deep.DeepCutAuto
import Derived.IntWalk
import Derived.Deep.QuietTactic
import Derived.BigQuiet
import Derived.Outline
namespace Go.Proofs.YthbjcihdlhkboaaGreatDoor
set_option linter.unusedSimpArgs false
set_option linter.unusedVariables false
open Go.RowKit Go.Maps Go.Shelf Go.Lib

structure RowV where
  row : Row
  tv : Value
  rv : Value
abbrev TxtAt (w : World) (B : Nat) (v : Value) (ts : List ByteArray) : Prop := Seq w B 9 1 v ts.length (flatS ts)
abbrev RulAt (w : World) (B : Nat) (v : Value) (rs : List Rule) : Prop := Seq w B 138 5 v rs.length (flatR rs)

def nmL (rows : List RowV) : List Value := rows.map fun r => .string r.row.name
def tvL (rows : List RowV) : List Value := rows.map (·.tv)
def rvL (rows : List RowV) : List Value := rows.map (·.rv)
/-- The reference's lists in memory. -/
structure RfW (w : World) (B qb : Nat) (S : RL) (vn vt vr : Value) (rows : List RowV) : Prop where
  eq : rows.map (·.row) = S.rows
  cells : w.heap[qb]? = some (.cells #[.int .i64 S.most, .int .i64 S.rules, .string S.chosen, vn, vt, vr] 98)
  names : Seq w B 9 1 vn rows.length (nmL rows)
  texts : Seq w B 32 1 vt rows.length (tvL rows)
  rules : Seq w B 107 1 vr rows.length (rvL rows)
  each : ∀ r ∈ rows, TxtAt w B r.tv r.row.texts ∧ RulAt w B r.rv r.row.rules
  lo : B ≤ qb
def RfAt (w : World) (B qb : Nat) (S : RL) : Prop := ∃ vn vt vr rows, RfW w B qb S vn vt vr rows

/-- Kinds of blocks of which the reference's lists have none. -/
def far17 (T : TypeId) : Bool := T != 98 && (T != 9 && (T != 32 && (T != 107 && T != 138)))

section
variable {w w' : World} {B qb : Nat} {S : RL} {vn vt vr : Value} {rows : List RowV}
theorem RfW.len (h : RfW w B qb S vn vt vr rows) : rows.length = S.rows.length := by rw [← h.eq]; simp
theorem RfW.get (h : RfW w B qb S vn vt vr rows) {k : Nat} {r : RowV} (hr : rows[k]? = some r) : S.rows[k]? = some r.row := by rw [← h.eq]; simp [hr]
theorem RfW.keep (h : RfW w B qb S vn vt vr rows) (hk : ∀ k cs T, w.heap[k]? = some (.cells cs T (0, 0)) → far17 T = false → B ≤ k → w'.heap[k]? = w.heap[k]?) : RfW w' B qb S vn vt vr rows where
  eq := h.eq
  cells := (hk qb _ _ h.cells rfl h.lo).trans h.cells
  names := h.names.turn fun k cur hc hB => hk k _ _ hc rfl hB
  texts := h.texts.turn fun k cur hc hB => hk k _ _ hc rfl hB
  rules := h.rules.turn fun k cur hc hB => hk k _ _ hc rfl hB
  each := fun r hr => ⟨(h.each r hr).1.turn fun k cur hc hB => hk k _ _ hc rfl hB, (h.each r hr).2.turn fun k cur hc hB => hk k _ _ hc rfl hB⟩
  lo := h.lo
theorem RfW.upd (h : RfW w B qb S vn vt vr rows) {C : Nat} {ks : Nat → Prop} (hu : Upd C ks w w') (hC : w.heap.size ≤ C) (hk : ∀ k cs T, ks k → w.heap[k]? = some (.cells cs T (0, 0)) → far17 T = true) : RfW w' B qb S vn vt vr rows :=
  h.keep fun k cs T hc hf hB => hu.block k (by have := blk_lt hc; omega) (fun e => by rw [hk k cs T e hc] at hf; cases hf)
theorem RfW.below (h : RfW w B qb S vn vt vr rows) (hb : Below w.heap.size w w') : RfW w' B qb S vn vt vr rows := h.keep fun k cs T hc _ _ => hb.block k (blk_lt hc)
theorem RfAt.upd (h : RfAt w B qb S) {C : Nat} {ks : Nat → Prop} (hu : Upd C ks w w') (hC : w.heap.size ≤ C) (hk : ∀ k cs T, ks k → w.heap[k]? = some (.cells cs T (0, 0)) → far17 T = true) : RfAt w' B qb S := by
  obtain ⟨vn, vt, vr, rows, h⟩ := h
  exact ⟨vn, vt, vr, rows, h.upd hu hC hk⟩
theorem RfAt.below (h : RfAt w B qb S) (hb : Below w.heap.size w w') : RfAt w' B qb S := by
  obtain ⟨vn, vt, vr, rows, h⟩ := h
  exact ⟨vn, vt, vr, rows, h.below hb⟩
theorem RfAt.lt (h : RfAt w B qb S) : qb < w.heap.size := by
  obtain ⟨vn, vt, vr, rows, h⟩ := h
  exact blk_lt h.cells
theorem RfAt.lo (h : RfAt w B qb S) : B ≤ qb := by
  obtain ⟨vn, vt, vr, rows, h⟩ := h
  exact h.lo
theorem cells6r {b : Nat} {x0 x1 x2 x3 x4 x5 : Value} {T : TypeId} (h : w.heap[b]? = some (.cells #[x0, x1, x2, x3, x4, x5] T)) : w.cell? ⟨b, 0, none⟩ = some x0 ∧ w.cell? ⟨b, 1, none⟩ = some x1 ∧ w.cell? ⟨b, 2, none⟩ = some x2 ∧ w.cell? ⟨b, 3, none⟩ = some x3 ∧ w.cell? ⟨b, 4, none⟩ = some x4 ∧ w.cell? ⟨b, 5, none⟩ = some x5 ∧ w.frozen? ⟨b, 2, none⟩ = false ∧ w.frozen? ⟨b, 3, none⟩ = false ∧ w.frozen? ⟨b, 4, none⟩ = false ∧ w.frozen? ⟨b, 5, none⟩ = false :=
  ⟨blk_cell h 0, blk_cell h 1, blk_cell h 2, blk_cell h 3, blk_cell h 4, blk_cell h 5, blk_frozen h 2, blk_frozen h 3, blk_frozen h 4, blk_frozen h 5⟩
/-- A cell of a slice of one-cell elements. -/
theorem Seq.one {e : TypeId} {A : Option Addr} {n c j : Nat} {xs : List Value} {v : Value} (h : Seq w B e 1 (.slice A n c) n xs) (hj : xs[j]? = some v) : ∃ b off, A = some ⟨b, off, none⟩ ∧ b < w.heap.size ∧ B ≤ b ∧ w.cell? ⟨b, off + j, none⟩ = some v ∧ w.frozen? ⟨b, off + j, none⟩ = false := by
  have hlt := (List.getElem?_eq_some_iff.1 hj).1
  have hn : j < n := by have := h.1; omega
  obtain ⟨g, off, cap, hv, hb, hg, _⟩ := h.form (by omega)
  obtain ⟨cur, hc⟩ := h.block g (by rw [hv]; rfl)
  cases hv
  exact ⟨g, off, rfl, hg, hb, by rw [h.cell j (by omega)]; exact hj, blk_frozen hc _⟩
end


set_option maxRecDepth 100000 in
set_option maxHeartbeats 4000000 in
theorem at_any {w : World} {B qb : Nat} {S : RL} (h : RfAt w B qb S) (x : ByteArray) (hn : S.rows.length ≤ 1000000) :
    Calls Tryz.prog 90 #[.pointer (some ⟨qb, 0, none⟩), .string x] w fun e w' => e = .returned (.tuple #[.int .i64 (S.pos x : Nat), .bool (S.is x)]) ∧ Below w.heap.size w w' := by
  obtain ⟨vn, vt, vr, rows, hR⟩ := h
  obtain ⟨A, c, rfl⟩ := hR.names.shape
  obtain ⟨c0, c1, c2, c3, c4, c5, _⟩ := cells6r hR.cells
  have hlen := hR.len
  have HR := Lib.hid hR
  have HN := Lib.hid (And.intro hn hlen)
  obtain ⟨p, hp⟩ : ∃ p, S.pos x = p := ⟨_, rfl⟩
  obtain ⟨i, hi⟩ : ∃ i, S.is x = i := ⟨_, rfl⟩
  rw [hp, hi]
  have HP := Lib.hid hp
  have HI := Lib.hid hi
  clear hR hn hlen hp hi c0 c1 c2 c4 c5
  go_enter Tryz.func90, Tryz.ntmps90
  go_wp2_with fail
  go_loopg [6] rows.length (fun g s6 wx => ∃ k : Nat, k ≤ rows.length ∧ g = rows.length - k ∧ s6 = .int .i64 k ∧ w = wx ∧ ∀ j r, j < k → S.rows[j]? = some r → Srt.ltS r.name x = true)
  case atStart => exact ⟨0, Nat.zero_le _, rfl, rfl, rfl, fun j r hj => by omega⟩
  case round =>
    obtain ⟨k, hk, hgk, rfl, rfl, hlt⟩ := hrel
    have HL := Lib.hid (And.intro hlt hgk)
    have hkn := HN.out
    have t0 : (0 : Int) ≤ (k : Int) := by omega
    clear hlt hgk
    by_cases hk1 : k < rows.length
    · have t1 : decide (k < rows.length) = true := by simpa using hk1
      have t2 : (k : Int) < (rows.length : Int) := by omega
      obtain ⟨r, hr⟩ : ∃ r, rows[k]? = some r := ⟨_, List.getElem?_eq_getElem hk1⟩
      obtain ⟨b, off, rfl, hb, _, y, _⟩ := HR.out.names.one (j := k) (v := .string r.row.name) (by simp [nmL, hr])
      have HRR := Lib.hid hr
      clear hr hkn
      cases hl : Srt.ltS r.row.name x with
      | true =>
        have hw : IntKind.i64.wrap ((k : Int) + 1) = (k : Int) + 1 := IntWalk.i64_in _ (by have := HN.out; omega)
        unfold Srt.ltS at hl
        go_wp2_with fail
        have HLL := Lib.hid hl
        clear hl
        go_roundg (rows.length - (k + 1))
        case measure => have := HL.out.2; omega
        case rel =>
          refine ⟨k + 1, by omega, rfl, by go_num, rfl, fun j q hj hq => ?_⟩
          by_cases e : j = k
          · subst e
            rw [HR.out.get HRR.out] at hq
            cases hq
            exact HLL.out
          · exact HL.out.1 j q (by omega) hq
      | false =>
        have hpk : p = k := by
          rw [← HP.out]
          exact Srt.pos_eq (by rw [← HN.out.2]; omega) HL.out.1 (fun q hq => by rw [HR.out.get HRR.out] at hq; cases hq; exact hl)
        have hik : i = (r.row.name.toList == x.toList) := by
          rw [← HI.out]
          unfold RL.is Srt.isAt
          rw [show Srt.pos Row.name S.rows x = k from HP.out.trans hpk, HR.out.get HRR.out]
        have HX := Lib.hid (And.intro hpk hik)
        clear hpk hik
        unfold Srt.ltS at hl
        go_wp2_with fail
        go_quiet (fail)
        go_wp2_with fail
        go_ret2
        exact ⟨by rw [HX.out.1, HX.out.2]; rfl, below_drewNs _ _⟩
    · have t1 : decide (k < rows.length) = false := by simpa using hk1
      have t2 : decide ((k : Int) < (rows.length : Int)) = false := by simp; omega
      have hpk : p = k := by
        rw [← HP.out]
        exact Srt.pos_eq (by rw [← HN.out.2]; omega) HL.out.1 (fun q hq => by
          have := (List.getElem?_eq_some_iff.1 hq).1
          omega)
      have hik : i = false := by
        rw [← HI.out]
        unfold RL.is Srt.isAt
        rw [show Srt.pos Row.name S.rows x = k from HP.out.trans hpk, List.getElem?_eq_none (by omega)]
      have HX := Lib.hid (And.intro hpk hik)
      clear hpk hik hkn
      go_wp2_with fail
      go_quiet (fail)
      go_wp2_with fail
      go_ret2
      exact ⟨by rw [HX.out.1, HX.out.2]; rfl, below_drewNs _ _⟩

set_option maxRecDepth 100000 in
set_option maxHeartbeats 4000000 in
theorem rhas_any {w : World} {B qb : Nat} {S : RL} (h : RfAt w B qb S) (x : ByteArray) (hn : S.rows.length ≤ 1000000) :
    Calls Tryz.prog 51 #[.pointer (some ⟨qb, 0, none⟩), .string x] w fun e w' => e = .returned (.bool (S.is x)) ∧ Below w.heap.size w w' := by
  have HC := Lib.hid (at_any h x hn)
  clear h hn
  go_enter Tryz.func51, Tryz.ntmps51
  go_wp2_with fail
  refine HC.out.mono ?_
  rintro e w1 ⟨rfl, hb1⟩
  have HB := Lib.hid hb1
  clear hb1
  go_wp2_with fail
  go_ret
  exact ⟨rfl, HB.out⟩

theorem rfnew_any (most rules : Int) (h0 : 0 ≤ most) (h1 : most ≤ 1000) (h2 : 0 ≤ rules) (h3 : rules ≤ 1000) (w : World) :
    Calls Tryz.prog 11 #[.int .i64 most, .int .i64 rules] w fun e w' => e = .returned (.tuple #[.pointer (some ⟨w.heap.size, 0, none⟩), .bool true]) ∧ Below w.heap.size w w' ∧ RfAt w' w.heap.size w.heap.size ⟨most, rules, ⟨#[]⟩, []⟩ := by
  have b0 : decide (most < 0) = false := by simp; omega
  have b1 : decide (1000 < most) = false := by simp; omega
  have b2 : decide (rules < 0) = false := by simp; omega
  have b3 : decide (1000 < rules) = false := by simp; omega
  go_enter Tryz.func11, Tryz.ntmps11
  go_wp2_with fail
  go_ret2
  refine ⟨rfl, (Below.refl _ _).alloc (Nat.le_refl _) _, .slice none 0 0, .slice none 0 0, .slice none 0 0, [], ?_⟩
  exact { eq := rfl, cells := blk_new' _ rfl, names := Seq.nil _ _ _ _, texts := Seq.nil _ _ _ _, rules := Seq.nil _ _ _ _, each := fun r hr => (by cases hr), lo := Nat.le_refl _ }

/-- Bounds that are none. -/
def badB (x y : Int) : Prop := x < 0 ∨ 1000 < x ∨ y < 0 ∨ 1000 < y
theorem badB_way {x y : Int} (h : badB x y) : (decide (x < 0) = true) ∨ (decide (x < 0) = false ∧ decide (1000 < x) = true) ∨ (decide (x < 0) = false ∧ decide (1000 < x) = false ∧ decide (y < 0) = true) ∨ (decide (x < 0) = false ∧ decide (1000 < x) = false ∧ decide (y < 0) = false ∧ decide (1000 < y) = true) := by
  unfold badB at h
  simp only [decide_eq_true_eq, decide_eq_false_iff_not]
  omega
theorem rfnew_bad (most rules : Int) (h : badB most rules) (w : World) :
    Calls Tryz.prog 11 #[.int .i64 most, .int .i64 rules] w fun e w' => e = .returned (.tuple #[.pointer none, .bool false]) ∧ Below w.heap.size w w' := by
  rcases badB_way h with h | ⟨h1, h⟩ | ⟨h1, h2, h⟩ | ⟨h1, h2, h3, h⟩
  all_goals
    go_enter Tryz.func11, Tryz.ntmps11
    go_wp2_with fail
    go_ret2
    exact ⟨rfl, Below.refl _ _⟩
theorem new_bad (most rules : Int) (h : badB most rules) (w : World) :
    Calls Tryz.prog 10 #[.int .i64 most, .int .i64 rules] w fun e w' => e = .returned (.tuple #[.pointer none, .int .i64 1]) ∧ Below w.heap.size w w' := by
  rcases badB_way h with h | ⟨h1, h⟩ | ⟨h1, h2, h⟩ | ⟨h1, h2, h3, h⟩
  all_goals
    go_enter Tryz.func10, Tryz.ntmps10
    go_wp2_with fail
    go_ret2
    exact ⟨rfl, Below.refl _ _⟩

theorem rule_cells5 {w : World} {B : Nat} {b off cap : Nat} {rs : List Rule} (h : RulAt w B (.slice (some ⟨b, off, none⟩) rs.length cap) rs) {k : Nat} {r : Rule} (hk : rs[k]? = some r) :
    w.cell? ⟨b, off + k * 5, none⟩ = some (.bool r.allow) ∧ w.cell? ⟨b, off + k * 5 + 1, none⟩ = some (.bool r.inn) ∧ w.cell? ⟨b, off + k * 5 + 2, none⟩ = some (.bool r.out) ∧ w.cell? ⟨b, off + k * 5 + 3, none⟩ = some (.string r.by_) ∧ w.cell? ⟨b, off + k * 5 + 4, none⟩ = some (.string r.value) := by
  have hlt := (List.getElem?_eq_some_iff.1 hk).1
  obtain ⟨a0, a1, a2, a3, a4⟩ := flatR_get rs k r hk
  have c := fun j (hj : j < 5) => h.cell (k * 5 + j) (by omega)
  have c0 := c 0 (by omega)
  simp only [Nat.add_zero] at c0
  exact ⟨by rw [c0]; exact a0, by rw [Nat.add_assoc, c 1 (by omega)]; exact a1, by rw [Nat.add_assoc, c 2 (by omega)]; exact a2, by rw [Nat.add_assoc, c 3 (by omega)]; exact a3, by rw [Nat.add_assoc, c 4 (by omega)]; exact a4⟩
theorem parseF_byle5 {t : ByteArray} {r : Rule} (h : parseF t = .ok r) : r.by_.size ≤ 5 := by
  have hl : ∀ x : ByteArray, x.toList.length = x.size := fun x => by rw [Lib.toList_data]; exact Array.length_toList
  have := hl r.by_
  rcases parseF_by h with e | e | e | e <;> rw [e] at this <;> simp at this <;> omega
end Go.Proofs.YthbjcihdlhkboaaGreatDoor
