/- The reference's rule as text, or none. -/
import Derived.Test.YthbjcihdlhkboaaDoorRf6
namespace Go.Proofs.YthbjcihdlhkboaaDoor
set_option linter.unusedSimpArgs false
set_option linter.unusedVariables false
open Go.RowKit Go.Maps Go.Shelf Go.Lib

/-- A rule as text, and is it one? -/
def refTextS (r : Rule) : ByteArray × Bool :=
  match parseF (refWriteS r) with
  | .error _ => (⟨#[]⟩, false)
  | .ok q => if sameR q r then (refWriteS r, true) else (⟨#[]⟩, false)

theorem refWriteS_size (r : Rule) : (refWriteS r).size ≤ r.by_.size + r.value.size + 14 := by
  obtain ⟨ra, ri, ro, rb, rv⟩ := r
  have h1 : (whatB ra).size ≤ 6 := by cases ra <;> decide
  have h2 : (rwayB ri ro).size ≤ 5 := by cases ri <;> cases ro <;> decide
  unfold refWriteS
  simp only
  split
  · simp only [size_append]
    omega
  · simp only [size_append]
    have : (⟨#[32]⟩ : ByteArray).size = 1 := rfl
    omega

set_option maxRecDepth 100000 in
set_option maxHeartbeats 4000000 in
theorem reftext_err (r : Rule) (hb : r.by_.size ≤ 140737488355328) (hv : r.value.size ≤ 140737488355328) (w : World) (c : Int) (hp : parseF (refWriteS r) = .error c) :
    Calls Tryd.prog 23 #[r.val] w fun e w' => e = .returned (.tuple #[.string ⟨#[]⟩, .bool false]) ∧ Below w.heap.size w w' := by
  have hs := refWriteS_size r
  have C1 := Lib.hid (fun W => refwrite_any r hb hv W)
  have C2 := Lib.hid (fun W => refparse_full (refWriteS r) W (by omega))
  generalize refWriteS r = t at *
  rw [hp] at C2
  simp only [parseV] at C2
  have hc0 : c ≠ 0 := parseF_err hp
  have hc1 : (c == 0) = false := by simpa using hc0
  have hc2 : (c != 0) = true := by simpa using hc0
  obtain ⟨ra, ri, ro, rb, rv⟩ := r
  clear hp hc0 hs hb hv
  go_enter Tryd.func23, Tryd.ntmps23
  go_wp2_with fail
  refine (C1.out _).mono ?_
  rintro e w1 ⟨rfl, hb1⟩
  have h1 : Below w.heap.size w w1 := Below.trans ((Below.refl _ _).alloc (Nat.le_refl _) _) (hb1.mono (by simp))
  go_wp2_with fail
  refine (C2.out _).mono ?_
  rintro e w2 ⟨rfl, hb2⟩
  have h2 : Below w.heap.size w w2 := h1.trans (hb2.mono h1.size)
  go_wp2_with fail
  go_ret2
  exact ⟨rfl, h2.alloc h2.size _⟩

set_option maxRecDepth 100000 in
set_option maxHeartbeats 4000000 in
theorem reftext_no (r q : Rule) (hb : r.by_.size ≤ 140737488355328) (hv : r.value.size ≤ 140737488355328) (w : World) (hp : parseF (refWriteS r) = .ok q) (hs' : sameR q r = false) :
    Calls Tryd.prog 23 #[r.val] w fun e w' => e = .returned (.tuple #[.string ⟨#[]⟩, .bool false]) ∧ Below w.heap.size w w' := by
  have hs := refWriteS_size r
  have C1 := Lib.hid (fun W => refwrite_any r hb hv W)
  have C2 := Lib.hid (fun W => refparse_full (refWriteS r) W (by omega))
  generalize refWriteS r = t at *
  rw [hp] at C2
  simp only [parseV] at C2
  obtain ⟨ra, ri, ro, rb, rv⟩ := r
  obtain ⟨qa, qi, qo, qb, qv⟩ := q
  simp only [sameR] at hs'
  clear hp hs hb hv
  go_enter Tryd.func23, Tryd.ntmps23
  go_wp2_with fail
  refine (C1.out _).mono ?_
  rintro e w1 ⟨rfl, hb1⟩
  have h1 : Below w.heap.size w w1 := Below.trans ((Below.refl _ _).alloc (Nat.le_refl _) _) (hb1.mono (by simp))
  have B1 : w1.heap[w.heap.size]? = some (.cells #[.bool ra, .bool ri, .bool ro, .string rb, .string rv] 65) := blk_below (blk_new w _) hb1 (by simp)
  go_wp2_with fail
  refine (C2.out _).mono ?_
  rintro e w2 ⟨rfl, hb2⟩
  have h2 : Below w.heap.size w w2 := h1.trans (hb2.mono h1.size)
  have B2 := blk_below B1 hb2 (blk_lt B1)
  have hlt := blk_lt B2
  have y0 : w2.cell? ⟨w.heap.size, 0, none⟩ = some (.bool ra) := blk_cell B2 0
  have y1 : w2.cell? ⟨w.heap.size, 1, none⟩ = some (.bool ri) := blk_cell B2 1
  have y2 : w2.cell? ⟨w.heap.size, 2, none⟩ = some (.bool ro) := blk_cell B2 2
  have y3 : w2.cell? ⟨w.heap.size, 3, none⟩ = some (.string rb) := blk_cell B2 3
  have y4 : w2.cell? ⟨w.heap.size, 4, none⟩ = some (.string rv) := blk_cell B2 4
  have HB := Lib.hid h2
  clear h1 h2 B1 B2 hb1 hb2
  have fin : ∀ (n : Nat), Below w.heap.size w (w2.alloc (.cells #[.bool qa, .bool qi, .bool qo, .string qb, .string qv] 65)) := fun _ => HB.out.alloc HB.out.size _
  have FIN := Lib.hid fin
  clear fin
  rcases Bool.eq_false_or_eq_true (qa == ra) with g1 | g1
  · rcases Bool.eq_false_or_eq_true (qi == ri) with g2 | g2
    · rcases Bool.eq_false_or_eq_true (qo == ro) with g3 | g3
      · rcases Bool.eq_false_or_eq_true (qb.toList == rb.toList) with g4 | g4
        · have g5 : (qv.toList == rv.toList) = false := by rw [g1, g2, g3, g4] at hs'; simpa using hs'
          clear hs'
          go_wp2_with fail
          all_goals
            go_ret2
            exact ⟨rfl, by first | exact FIN.out 0 | exact (FIN.out 0).drew⟩
        · clear hs'
          go_wp2_with fail
          all_goals
            go_ret2
            exact ⟨rfl, by first | exact FIN.out 0 | exact (FIN.out 0).drew⟩
      · clear hs'
        go_wp2_with fail
        all_goals
          go_ret2
          exact ⟨rfl, by first | exact FIN.out 0 | exact (FIN.out 0).drew⟩
    · clear hs'
      go_wp2_with fail
      all_goals
        go_ret2
        exact ⟨rfl, by first | exact FIN.out 0 | exact (FIN.out 0).drew⟩
  · clear hs'
    go_wp2_with fail
    all_goals
      go_ret2
      exact ⟨rfl, by first | exact FIN.out 0 | exact (FIN.out 0).drew⟩

set_option maxRecDepth 100000 in
set_option maxHeartbeats 4000000 in
theorem reftext_yes (r q : Rule) (hb : r.by_.size ≤ 140737488355328) (hv : r.value.size ≤ 140737488355328) (w : World) (hp : parseF (refWriteS r) = .ok q) (hs' : sameR q r = true) :
    Calls Tryd.prog 23 #[r.val] w fun e w' => e = .returned (.tuple #[.string (refWriteS r), .bool true]) ∧ Below w.heap.size w w' := by
  have hs := refWriteS_size r
  have C1 := Lib.hid (fun W => refwrite_any r hb hv W)
  have C2 := Lib.hid (fun W => refparse_full (refWriteS r) W (by omega))
  generalize refWriteS r = t at *
  rw [hp] at C2
  simp only [parseV] at C2
  obtain ⟨ra, ri, ro, rb, rv⟩ := r
  obtain ⟨qa, qi, qo, qb, qv⟩ := q
  have hq : qa = ra ∧ qi = ri ∧ qo = ro ∧ (qb.toList == rb.toList) = true ∧ (qv.toList == rv.toList) = true := by
    simp only [sameR, Bool.and_eq_true, beq_iff_eq] at hs'
    exact ⟨hs'.1, hs'.2.1, hs'.2.2.1, by simpa using hs'.2.2.2.1, by simpa using hs'.2.2.2.2⟩
  obtain ⟨rfl, rfl, rfl, hq1, hq2⟩ := hq
  clear hp hs hb hv hs'
  go_enter Tryd.func23, Tryd.ntmps23
  go_wp2_with fail
  refine (C1.out _).mono ?_
  rintro e w1 ⟨rfl, hb1⟩
  have h1 : Below w.heap.size w w1 := Below.trans ((Below.refl _ _).alloc (Nat.le_refl _) _) (hb1.mono (by simp))
  have B1 : w1.heap[w.heap.size]? = some (.cells #[.bool qa, .bool qi, .bool qo, .string rb, .string rv] 65) := blk_below (blk_new w _) hb1 (by simp)
  go_wp2_with fail
  refine (C2.out _).mono ?_
  rintro e w2 ⟨rfl, hb2⟩
  have h2 : Below w.heap.size w w2 := h1.trans (hb2.mono h1.size)
  have B2 := blk_below B1 hb2 (blk_lt B1)
  have hlt := blk_lt B2
  have y0 : w2.cell? ⟨w.heap.size, 0, none⟩ = some (.bool qa) := blk_cell B2 0
  have y1 : w2.cell? ⟨w.heap.size, 1, none⟩ = some (.bool qi) := blk_cell B2 1
  have y2 : w2.cell? ⟨w.heap.size, 2, none⟩ = some (.bool qo) := blk_cell B2 2
  have y3 : w2.cell? ⟨w.heap.size, 3, none⟩ = some (.string rb) := blk_cell B2 3
  have y4 : w2.cell? ⟨w.heap.size, 4, none⟩ = some (.string rv) := blk_cell B2 4
  have HB := Lib.hid h2
  clear h1 h2 B1 B2 hb1 hb2
  go_wp2_with fail
  go_ret2
  exact ⟨rfl, HB.out.alloc HB.out.size _⟩

theorem reftext_any (r : Rule) (hb : r.by_.size ≤ 140737488355328) (hv : r.value.size ≤ 140737488355328) (w : World) :
    Calls Tryd.prog 23 #[r.val] w fun e w' => e = .returned (.tuple #[.string (refTextS r).1, .bool (refTextS r).2]) ∧ Below w.heap.size w w' := by
  unfold refTextS
  cases hp : parseF (refWriteS r) with
  | error c => exact reftext_err r hb hv w c hp
  | ok q =>
    cases hs : sameR q r
    · simpa [hs] using reftext_no r q hb hv w hp hs
    · simpa [hs] using reftext_yes r q hb hv w hp hs

/-! The two writers agree at every rule that is one. -/

theorem toList_eq {a b : ByteArray} (h : a.toList = b.toList) : a = b := by
  rw [Lib.toList_data, Lib.toList_data] at h
  have h2 : a.data = b.data := Array.toList_inj.1 h
  cases a; cases b; simp_all

theorem write_same (r : Rule) (h : (r.inn || r.out) = true) : refWriteS r = writeS r := by
  obtain ⟨ra, ri, ro, rb, rv⟩ := r
  simp only at h
  unfold refWriteS writeS
  simp only
  have hw : rwayB ri ro = wayB ri ro := by cases ri <;> cases ro <;> first | rfl | simp at h
  rw [hw]
  by_cases ha : (rb.toList == [97, 108, 108]) = true
  · rw [if_pos ha, if_pos ha]
    have : rb = ⟨#[97, 108, 108]⟩ := toList_eq (by rw [beq_iff_eq] at ha; rw [ha, Lib.toList_data])
    rw [this]
  · rw [if_neg ha, if_neg ha]

theorem parseF_way {s : ByteArray} {q : Rule} (h : parseF s = .ok q) : (q.inn || q.out) = true := by
  unfold parseF parseS at h
  split at h
  · split at h
    · rename_i h2
      revert h
      generalize valueS _ _ _ _ _ _ = v
      intro h
      cases v with
      | error c => simp [thenRule] at h
      | ok v =>
        simp only [thenRule, Except.ok.injEq] at h
        subst h
        simp only
        revert h2
        generalize (cutB (cutB s).2.1).1.toList = l
        intro _
        by_cases e : l = [105, 110]
        · subst e; rfl
        · have : (l == [105, 110]) = false := by simpa using e
          rw [this]; simp
    · cases h
  · cases h

theorem text_same (r : Rule) : refTextS r = ((textS r).1, (textS r).2 == 0) := by
  cases h : (r.inn || r.out)
  · have hno : ∀ s q, parseF s = .ok q → sameR q r = false := by
      intro s q hq
      have hw := parseF_way hq
      cases hs : sameR q r
      · rfl
      · simp only [sameR, Bool.and_eq_true, beq_iff_eq] at hs
        rw [hs.2.1, hs.2.2.1, h] at hw
        cases hw
    unfold refTextS textS
    cases h1 : parseF (refWriteS r) with
    | error c =>
      cases h2 : parseF (writeS r) with
      | error d => rfl
      | ok q => simp [hno _ q h2]
    | ok p =>
      cases h2 : parseF (writeS r) with
      | error d => simp [hno _ p h1]
      | ok q => simp [hno _ p h1, hno _ q h2]
  · unfold refTextS textS
    rw [write_same r h]
    cases h1 : parseF (writeS r) with
    | error c => rfl
    | ok q => cases hs : sameR q r <;> simp [hs]

theorem textS_cases (r : Rule) : ((textS r).2 = 1 ∧ (textS r).1 = ⟨#[]⟩) ∨ ((textS r).2 = 0 ∧ ∃ q, parseF (textS r).1 = .ok q ∧ sameR q r = true) := by
  unfold textS
  cases h : parseF (writeS r) with
  | error c => exact .inl ⟨rfl, rfl⟩
  | ok q =>
    cases hs : sameR q r
    · exact .inl ⟨by simp [hs], by simp [hs]⟩
    · exact .inr ⟨by simp [hs], q, by simp [hs, h], hs⟩

end Go.Proofs.YthbjcihdlhkboaaDoor
