/- A rule as text, or none. -/
import Derived.Test.YthbjcihdlhkboaaDoorRu1
namespace Go.Proofs.YthbjcihdlhkboaaDoor
set_option linter.unusedSimpArgs false
set_option linter.unusedVariables false
open Go.RowKit Go.Maps Go.Shelf Go.Lib

/-- Are two rules the same, cell by cell? -/
def sameR (q r : Rule) : Bool := q.allow == r.allow && (q.inn == r.inn && (q.out == r.out && (q.by_.toList == r.by_.toList && q.value.toList == r.value.toList)))
/-- A rule as text, and the error. -/
def textS (r : Rule) : ByteArray × Int :=
  match parseF (writeS r) with
  | .error _ => (⟨#[]⟩, 1)
  | .ok q => if sameR q r then (writeS r, 0) else (⟨#[]⟩, 1)

theorem writeS_size (r : Rule) : (writeS r).size ≤ r.by_.size + r.value.size + 14 := by
  obtain ⟨ra, ri, ro, rb, rv⟩ := r
  have h1 : (whatB ra).size ≤ 6 := by cases ra <;> decide
  have h2 : (wayB ri ro).size ≤ 5 := by cases ri <;> cases ro <;> decide
  unfold writeS
  simp only
  split
  · simp only [size_append]
    have : (⟨#[97, 108, 108]⟩ : ByteArray).size = 3 := rfl
    omega
  · simp only [size_append]
    have : (⟨#[32]⟩ : ByteArray).size = 1 := rfl
    omega

set_option maxRecDepth 100000 in
set_option maxHeartbeats 4000000 in
theorem text17_err (r : Rule) (hb : r.by_.size ≤ 140737488355328) (hv : r.value.size ≤ 140737488355328) (w : World) (hT : Tabs w) (c : Int) (hp : parseF (writeS r) = .error c) :
    Calls Tryd.prog 22 #[r.val] w fun e w' => e = .returned (.tuple #[.string ⟨#[]⟩, .int .i64 1]) ∧ Below w.heap.size w w' := by
  have hs := writeS_size r
  have C1 := Lib.hid (fun W => write_any r hb hv W)
  have C2 := Lib.hid (fun W (hW : Below w.heap.size w W) => parse_full (writeS r) W (hT.later hW) (by omega))
  generalize writeS r = t at *
  rw [hp] at C2
  simp only [parseV] at C2
  have hc0 : c ≠ 0 := parseF_err hp
  have hc1 : (c == 0) = false := by simpa using hc0
  have hc2 : (c != 0) = true := by simpa using hc0
  obtain ⟨ra, ri, ro, rb, rv⟩ := r
  clear hp hc0 hs hT hb hv
  go_enter Tryd.func22, Tryd.ntmps22
  go_wp2_with fail
  refine (C1.out _).mono ?_
  rintro e w1 ⟨rfl, hb1⟩
  have h1 : Below w.heap.size w w1 := Below.trans ((Below.refl _ _).alloc (Nat.le_refl _) _) (hb1.mono (by simp))
  go_wp2_with fail
  refine (C2.out _ h1).mono ?_
  rintro e w2 ⟨rfl, hb2⟩
  have h2 : Below w.heap.size w w2 := h1.trans (hb2.mono h1.size)
  go_wp2_with fail
  go_ret2
  exact ⟨rfl, h2.alloc h2.size _⟩

set_option maxRecDepth 100000 in
set_option maxHeartbeats 4000000 in
theorem text17_no (r q : Rule) (hb : r.by_.size ≤ 140737488355328) (hv : r.value.size ≤ 140737488355328) (w : World) (hT : Tabs w) (hp : parseF (writeS r) = .ok q) (hs' : sameR q r = false) :
    Calls Tryd.prog 22 #[r.val] w fun e w' => e = .returned (.tuple #[.string ⟨#[]⟩, .int .i64 1]) ∧ Below w.heap.size w w' := by
  have hs := writeS_size r
  have C1 := Lib.hid (fun W => write_any r hb hv W)
  have C2 := Lib.hid (fun W (hW : Below w.heap.size w W) => parse_full (writeS r) W (hT.later hW) (by omega))
  generalize writeS r = t at *
  rw [hp] at C2
  simp only [parseV] at C2
  obtain ⟨ra, ri, ro, rb, rv⟩ := r
  obtain ⟨qa, qi, qo, qb, qv⟩ := q
  have HN := Lib.hid hs'
  clear hp hs hT hb hv hs'
  go_enter Tryd.func22, Tryd.ntmps22
  go_wp2_with fail
  refine (C1.out _).mono ?_
  rintro e w1 ⟨rfl, hb1⟩
  have h1 : Below w.heap.size w w1 := Below.trans ((Below.refl _ _).alloc (Nat.le_refl _) _) (hb1.mono (by simp))
  have B1 : w1.heap[w.heap.size]? = some (.cells #[.bool ra, .bool ri, .bool ro, .string rb, .string rv] 65) := blk_below (blk_new w _) hb1 (by simp)
  go_wp2_with fail
  refine (C2.out _ h1).mono ?_
  rintro e w2 ⟨rfl, hb2⟩
  have h2 : Below w.heap.size w w2 := h1.trans (hb2.mono h1.size)
  have B2 := blk_below B1 hb2 (blk_lt B1)
  have hlt := blk_lt B2
  have y0 : w2.cell? ⟨w.heap.size, 0, none⟩ = some (.bool ra) := blk_cell B2 0
  have y1 : w2.cell? ⟨w.heap.size, 1, none⟩ = some (.bool ri) := blk_cell B2 1
  have y2 : w2.cell? ⟨w.heap.size, 2, none⟩ = some (.bool ro) := blk_cell B2 2
  have y3 : w2.cell? ⟨w.heap.size, 3, none⟩ = some (.string rb) := blk_cell B2 3
  have y4 : w2.cell? ⟨w.heap.size, 4, none⟩ = some (.string rv) := blk_cell B2 4
  have h3 := h2.alloc h2.size (.cells #[.bool qa, .bool qi, .bool qo, .string qb, .string qv] 65)
  have HB := Lib.hid h2
  clear h1 h2 h3 B1 B2 hb1 hb2
  go_wp2_with fail
  all_goals first
    | (go_ret2; exact ⟨rfl, HB.out.alloc HB.out.size _⟩)
    | (rename_i a1 a2 a3 a4 a5; exfalso; have := HN.out; simp [sameR, a1, a2, a3, a4, a5] at this)

set_option maxRecDepth 100000 in
set_option maxHeartbeats 4000000 in
theorem text17_yes (r q : Rule) (hb : r.by_.size ≤ 140737488355328) (hv : r.value.size ≤ 140737488355328) (w : World) (hT : Tabs w) (hp : parseF (writeS r) = .ok q) (hs' : sameR q r = true) :
    Calls Tryd.prog 22 #[r.val] w fun e w' => e = .returned (.tuple #[.string (writeS r), .int .i64 0]) ∧ Below w.heap.size w w' := by
  have hs := writeS_size r
  have C1 := Lib.hid (fun W => write_any r hb hv W)
  have C2 := Lib.hid (fun W (hW : Below w.heap.size w W) => parse_full (writeS r) W (hT.later hW) (by omega))
  generalize writeS r = t at *
  rw [hp] at C2
  simp only [parseV] at C2
  obtain ⟨ra, ri, ro, rb, rv⟩ := r
  obtain ⟨qa, qi, qo, qb, qv⟩ := q
  have hq : qa = ra ∧ qi = ri ∧ qo = ro ∧ (qb.toList == rb.toList) = true ∧ (qv.toList == rv.toList) = true := by
    simp only [sameR, Bool.and_eq_true, beq_iff_eq] at hs'
    exact ⟨hs'.1, hs'.2.1, hs'.2.2.1, by simpa using hs'.2.2.2.1, by simpa using hs'.2.2.2.2⟩
  obtain ⟨rfl, rfl, rfl, hq1, hq2⟩ := hq
  clear hp hs hT hb hv hs'
  go_enter Tryd.func22, Tryd.ntmps22
  go_wp2_with fail
  refine (C1.out _).mono ?_
  rintro e w1 ⟨rfl, hb1⟩
  have h1 : Below w.heap.size w w1 := Below.trans ((Below.refl _ _).alloc (Nat.le_refl _) _) (hb1.mono (by simp))
  have B1 : w1.heap[w.heap.size]? = some (.cells #[.bool qa, .bool qi, .bool qo, .string rb, .string rv] 65) := blk_below (blk_new w _) hb1 (by simp)
  go_wp2_with fail
  refine (C2.out _ h1).mono ?_
  rintro e w2 ⟨rfl, hb2⟩
  have h2 : Below w.heap.size w w2 := h1.trans (hb2.mono h1.size)
  have B2 := blk_below B1 hb2 (blk_lt B1)
  have hlt := blk_lt B2
  have y0 : w2.cell? ⟨w.heap.size, 0, none⟩ = some (.bool qa) := blk_cell B2 0
  have y1 : w2.cell? ⟨w.heap.size, 1, none⟩ = some (.bool qi) := blk_cell B2 1
  have y2 : w2.cell? ⟨w.heap.size, 2, none⟩ = some (.bool qo) := blk_cell B2 2
  have y3 : w2.cell? ⟨w.heap.size, 3, none⟩ = some (.string rb) := blk_cell B2 3
  have y4 : w2.cell? ⟨w.heap.size, 4, none⟩ = some (.string rv) := blk_cell B2 4
  have HB := Lib.hid h2
  clear h1 h2 B1 B2 hb1 hb2
  go_wp2_with fail
  go_ret2
  exact ⟨rfl, HB.out.alloc HB.out.size _⟩

theorem text17_any (r : Rule) (hb : r.by_.size ≤ 140737488355328) (hv : r.value.size ≤ 140737488355328) (w : World) (hT : Tabs w) :
    Calls Tryd.prog 22 #[r.val] w fun e w' => e = .returned (.tuple #[.string (textS r).1, .int .i64 (textS r).2]) ∧ Below w.heap.size w w' := by
  unfold textS
  cases hp : parseF (writeS r) with
  | error c => exact text17_err r hb hv w hT c hp
  | ok q =>
    cases hs : sameR q r
    · simpa [hs] using text17_no r q hb hv w hT hp hs
    · simpa [hs] using text17_yes r q hb hv w hT hp hs

end Go.Proofs.YthbjcihdlhkboaaDoor
