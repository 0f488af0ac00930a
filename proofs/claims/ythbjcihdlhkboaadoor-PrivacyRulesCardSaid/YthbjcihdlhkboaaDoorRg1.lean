/- PrivacyRules answers true. -/
import Derived.Test.YthbjcihdlhkboaaDoorRf7
import Derived.Test.YthbjcihdlhkboaaDoorTx1
namespace Go.Proofs.YthbjcihdlhkboaaDoor
set_option linter.unusedSimpArgs false
set_option linter.unusedVariables false
open Go.RowKit Go.Maps Go.Shelf Go.Lib

theorem sameR_refl (r : Rule) : sameR r r = true := by simp [sameR]
theorem parseV_form (p : Except Int Rule) : ∃ (r : Rule) (c : Int), parseV p = .tuple #[r.val, .int .i64 c] := by
  cases p with
  | error c => exact ⟨_, c, rfl⟩
  | ok r => exact ⟨r, 0, rfl⟩

set_option maxRecDepth 100000 in
set_option maxHeartbeats 4000000 in
theorem rules_no (w : World) (hT : Tabs w) (text s : ByteArray) (c : Int) (p r : Rule)
    (C1' : ∀ W, Calls Tryd.prog 18 #[.string text, .int .i64 200] W fun e w' => e = .returned (.string s) ∧ Below W.heap.size W w')
    (C2' : ∀ W, Below w.heap.size w W → Calls Tryd.prog 19 #[.string s] W fun e w' => e = .returned (.tuple #[p.val, .int .i64 c]) ∧ Below W.heap.size W w')
    (C3' : ∀ W, Calls Tryd.prog 20 #[.string s] W fun e w' => e = .returned (.tuple #[p.val, .int .i64 c]) ∧ Below W.heap.size W w')
    (C4' : ∀ W, Below w.heap.size w W → Calls Tryd.prog 22 #[r.val] W fun e w' => e = .returned (.tuple #[.string ⟨#[]⟩, .int .i64 1]) ∧ Below W.heap.size W w')
    (C5' : ∀ W, Calls Tryd.prog 23 #[r.val] W fun e w' => e = .returned (.tuple #[.string ⟨#[]⟩, .bool false]) ∧ Below W.heap.size W w')
    (C9' : ∀ W, Below w.heap.size w W → Calls Tryd.prog 14 #[] W fun e w' => e = .returned (.bool true) ∧ Below W.heap.size W w') :
    Calls Tryd.prog 7 #[.string text, r.val] w fun e w' => e = .returned (.bool true) ∧ Below w.heap.size w w' := by
  have C6 := Lib.hid (fun W => sameRule_any p p W)
  rw [sameR_refl] at C6
  obtain ⟨pa, pi, po, pb, pv⟩ := p
  obtain ⟨ra, ri, ro, rb, rv⟩ := r
  have C1 := Lib.hid C1'
  have C2 := Lib.hid C2'
  have C3 := Lib.hid C3'
  have C4 := Lib.hid C4'
  have C5 := Lib.hid C5'
  have C9 := Lib.hid C9'
  clear C1' C2' C3' C4' C5' C9' hT
  have hcc : (c == c) = true := by simp
  have hcn : (c != c) = false := by simp
  go_enter Tryd.func7, Tryd.ntmps7
  go_wp2_with fail
  refine (C1.out _).mono ?_
  rintro e w1 ⟨rfl, hb1⟩
  have h1 : Below w.heap.size w w1 := Below.trans ((Below.refl _ _).alloc (Nat.le_refl _) _) (hb1.mono (by simp))
  have B1 : w1.heap[w.heap.size]? = some (.cells #[.bool ra, .bool ri, .bool ro, .string rb, .string rv] 65) := blk_below (blk_new w _) hb1 (by simp)
  have H1 := Lib.hid (And.intro h1 B1)
  clear h1 B1 hb1
  go_wp2_with fail
  refine (C2.out _ H1.out.1).mono ?_
  rintro e w2 ⟨rfl, hb2⟩
  have H2 := Lib.hid (And.intro (H1.out.1.trans (hb2.mono H1.out.1.size)) (blk_below H1.out.2 hb2 (blk_lt H1.out.2)))
  clear hb2 H1
  go_wp2_with fail
  refine (C3.out _).mono ?_
  rintro e w3 ⟨rfl, hb3⟩
  have BA : w3.heap[w2.heap.size]? = some (.cells #[.bool pa, .bool pi, .bool po, .string pb, .string pv] 65) := blk_below (blk_new w2 _) hb3 (by simp)
  have BR : w3.heap[w.heap.size]? = some (.cells #[.bool ra, .bool ri, .bool ro, .string rb, .string rv] 65) := blk_below (blk_alloc H2.out.2 _) hb3 (by have := blk_lt H2.out.2; simp; omega)
  have h3 : Below w.heap.size w w3 := (H2.out.1.alloc H2.out.1.size _).trans (hb3.mono (by have := H2.out.1.size; simp; omega))
  clear hb3 H2
  obtain ⟨w4, hw4⟩ : ∃ w4, w3.alloc (.cells #[.bool pa, .bool pi, .bool po, .string pb, .string pv] 65) = w4 := ⟨_, rfl⟩
  have BB : w4.heap[w3.heap.size]? = some (.cells #[.bool pa, .bool pi, .bool po, .string pb, .string pv] 65) := by rw [← hw4]; exact blk_new _ _
  have BA4 : w4.heap[w2.heap.size]? = some (.cells #[.bool pa, .bool pi, .bool po, .string pb, .string pv] 65) := by rw [← hw4]; exact blk_alloc BA _
  have BR4 : w4.heap[w.heap.size]? = some (.cells #[.bool ra, .bool ri, .bool ro, .string rb, .string rv] 65) := by rw [← hw4]; exact blk_alloc BR _
  have h4 : Below w.heap.size w w4 := by rw [← hw4]; exact h3.alloc h3.size _
  have H4 := Lib.hid (And.intro h4 BR4)
  clear BA BR h3 h4 BR4
  go_upto_region 4 with fail
  go_cut [35] (fun s35 wx => s35 = .bool false ∧ Below w.heap.size w wx ∧ wx.heap[w.heap.size]? = some (.cells #[.bool ra, .bool ri, .bool ro, .string rb, .string rv] 65))
  case first =>
    generalize w3.heap.size = gb at *
    generalize w2.heap.size = ga at *
    have y0 : w4.cell? ⟨ga, 0, none⟩ = some (.bool pa) := blk_cell BA4 0
    have y1 : w4.cell? ⟨ga, 1, none⟩ = some (.bool pi) := blk_cell BA4 1
    have y2 : w4.cell? ⟨ga, 2, none⟩ = some (.bool po) := blk_cell BA4 2
    have y3 : w4.cell? ⟨ga, 3, none⟩ = some (.string pb) := blk_cell BA4 3
    have y4 : w4.cell? ⟨ga, 4, none⟩ = some (.string pv) := blk_cell BA4 4
    have z0 : w4.cell? ⟨gb, 0, none⟩ = some (.bool pa) := blk_cell BB 0
    have z1 : w4.cell? ⟨gb, 1, none⟩ = some (.bool pi) := blk_cell BB 1
    have z2 : w4.cell? ⟨gb, 2, none⟩ = some (.bool po) := blk_cell BB 2
    have z3 : w4.cell? ⟨gb, 3, none⟩ = some (.string pb) := blk_cell BB 3
    have z4 : w4.cell? ⟨gb, 4, none⟩ = some (.string pv) := blk_cell BB 4
    clear BA4 BB hw4
    go_wp2_with fail
    refine (C6.out _).mono ?_
    rintro e w5 ⟨rfl, hb5⟩
    have h5 := H4.out.1.trans (hb5.mono H4.out.1.size)
    have B5 := blk_below H4.out.2 hb5 (blk_lt H4.out.2)
    have H5 := Lib.hid (And.intro h5 B5)
    clear h5 B5 hb5
    go_wp2_with fail
    go_meet
    exact ⟨rfl, H5.out.1, H5.out.2⟩
  case rest =>
    obtain ⟨rfl, hbc, hBc⟩ := hcut
    go_step
    have H5 := Lib.hid (And.intro hbc hBc)
    clear H4 BB BA4 hw4 hbc hBc
    have x0 : wc.cell? ⟨w.heap.size, 0, none⟩ = some (.bool ra) := blk_cell H5.out.2 0
    have x1 : wc.cell? ⟨w.heap.size, 1, none⟩ = some (.bool ri) := blk_cell H5.out.2 1
    have x2 : wc.cell? ⟨w.heap.size, 2, none⟩ = some (.bool ro) := blk_cell H5.out.2 2
    have x3 : wc.cell? ⟨w.heap.size, 3, none⟩ = some (.string rb) := blk_cell H5.out.2 3
    have x4 : wc.cell? ⟨w.heap.size, 4, none⟩ = some (.string rv) := blk_cell H5.out.2 4
    go_wp2_with fail
    refine (C4.out _ H5.out.1).mono ?_
    rintro e w6 ⟨rfl, hb6⟩
    have H6 := Lib.hid (And.intro (H5.out.1.trans (hb6.mono H5.out.1.size)) (blk_below H5.out.2 hb6 (blk_lt H5.out.2)))
    clear x0 x1 x2 x3 x4 hb6 H5
    have x0 : w6.cell? ⟨w.heap.size, 0, none⟩ = some (.bool ra) := blk_cell H6.out.2 0
    have x1 : w6.cell? ⟨w.heap.size, 1, none⟩ = some (.bool ri) := blk_cell H6.out.2 1
    have x2 : w6.cell? ⟨w.heap.size, 2, none⟩ = some (.bool ro) := blk_cell H6.out.2 2
    have x3 : w6.cell? ⟨w.heap.size, 3, none⟩ = some (.string rb) := blk_cell H6.out.2 3
    have x4 : w6.cell? ⟨w.heap.size, 4, none⟩ = some (.string rv) := blk_cell H6.out.2 4
    go_wp2_with fail
    refine (C5.out _).mono ?_
    rintro e w7 ⟨rfl, hb7⟩
    have H7 := Lib.hid (And.intro (H6.out.1.trans (hb7.mono H6.out.1.size)) (blk_below H6.out.2 hb7 (blk_lt H6.out.2)))
    clear x0 x1 x2 x3 x4 hb7 H6
    go_wp2_with fail
    refine (C9.out _ H7.out.1).mono ?_
    rintro e w9 ⟨rfl, hb9⟩
    have h9 := H7.out.1.trans (hb9.mono H7.out.1.size)
    go_wp2_with fail
    go_ret
    exact ⟨rfl, h9⟩

set_option maxRecDepth 100000 in
set_option maxHeartbeats 4000000 in
theorem rules_yes (w : World) (hT : Tabs w) (text s t : ByteArray) (c : Int) (p r q : Rule) (hs : sameR q r = true)
    (C1' : ∀ W, Calls Tryd.prog 18 #[.string text, .int .i64 200] W fun e w' => e = .returned (.string s) ∧ Below W.heap.size W w')
    (C2' : ∀ W, Below w.heap.size w W → Calls Tryd.prog 19 #[.string s] W fun e w' => e = .returned (.tuple #[p.val, .int .i64 c]) ∧ Below W.heap.size W w')
    (C3' : ∀ W, Calls Tryd.prog 20 #[.string s] W fun e w' => e = .returned (.tuple #[p.val, .int .i64 c]) ∧ Below W.heap.size W w')
    (C4' : ∀ W, Below w.heap.size w W → Calls Tryd.prog 22 #[r.val] W fun e w' => e = .returned (.tuple #[.string t, .int .i64 0]) ∧ Below W.heap.size W w')
    (C5' : ∀ W, Calls Tryd.prog 23 #[r.val] W fun e w' => e = .returned (.tuple #[.string t, .bool true]) ∧ Below W.heap.size W w')
    (C7' : ∀ W, Below w.heap.size w W → Calls Tryd.prog 19 #[.string t] W fun e w' => e = .returned (.tuple #[q.val, .int .i64 0]) ∧ Below W.heap.size W w')
    (C9' : ∀ W, Below w.heap.size w W → Calls Tryd.prog 14 #[] W fun e w' => e = .returned (.bool true) ∧ Below W.heap.size W w') :
    Calls Tryd.prog 7 #[.string text, r.val] w fun e w' => e = .returned (.bool true) ∧ Below w.heap.size w w' := by
  have C8 := Lib.hid (fun W => sameRule_any q r W)
  rw [hs] at C8
  have htt : (t.toList == t.toList) = true := by simp
  have C7 := Lib.hid C7'
  obtain ⟨qa, qi, qo, qb, qv⟩ := q
  clear C7' hs
  have C6 := Lib.hid (fun W => sameRule_any p p W)
  rw [sameR_refl] at C6
  obtain ⟨pa, pi, po, pb, pv⟩ := p
  obtain ⟨ra, ri, ro, rb, rv⟩ := r
  have C1 := Lib.hid C1'
  have C2 := Lib.hid C2'
  have C3 := Lib.hid C3'
  have C4 := Lib.hid C4'
  have C5 := Lib.hid C5'
  have C9 := Lib.hid C9'
  clear C1' C2' C3' C4' C5' C9' hT
  have hcc : (c == c) = true := by simp
  have hcn : (c != c) = false := by simp
  go_enter Tryd.func7, Tryd.ntmps7
  go_wp2_with fail
  refine (C1.out _).mono ?_
  rintro e w1 ⟨rfl, hb1⟩
  have h1 : Below w.heap.size w w1 := Below.trans ((Below.refl _ _).alloc (Nat.le_refl _) _) (hb1.mono (by simp))
  have B1 : w1.heap[w.heap.size]? = some (.cells #[.bool ra, .bool ri, .bool ro, .string rb, .string rv] 65) := blk_below (blk_new w _) hb1 (by simp)
  have H1 := Lib.hid (And.intro h1 B1)
  clear h1 B1 hb1
  go_wp2_with fail
  refine (C2.out _ H1.out.1).mono ?_
  rintro e w2 ⟨rfl, hb2⟩
  have H2 := Lib.hid (And.intro (H1.out.1.trans (hb2.mono H1.out.1.size)) (blk_below H1.out.2 hb2 (blk_lt H1.out.2)))
  clear hb2 H1
  go_wp2_with fail
  refine (C3.out _).mono ?_
  rintro e w3 ⟨rfl, hb3⟩
  have BA : w3.heap[w2.heap.size]? = some (.cells #[.bool pa, .bool pi, .bool po, .string pb, .string pv] 65) := blk_below (blk_new w2 _) hb3 (by simp)
  have BR : w3.heap[w.heap.size]? = some (.cells #[.bool ra, .bool ri, .bool ro, .string rb, .string rv] 65) := blk_below (blk_alloc H2.out.2 _) hb3 (by have := blk_lt H2.out.2; simp; omega)
  have h3 : Below w.heap.size w w3 := (H2.out.1.alloc H2.out.1.size _).trans (hb3.mono (by have := H2.out.1.size; simp; omega))
  clear hb3 H2
  obtain ⟨w4, hw4⟩ : ∃ w4, w3.alloc (.cells #[.bool pa, .bool pi, .bool po, .string pb, .string pv] 65) = w4 := ⟨_, rfl⟩
  have BB : w4.heap[w3.heap.size]? = some (.cells #[.bool pa, .bool pi, .bool po, .string pb, .string pv] 65) := by rw [← hw4]; exact blk_new _ _
  have BA4 : w4.heap[w2.heap.size]? = some (.cells #[.bool pa, .bool pi, .bool po, .string pb, .string pv] 65) := by rw [← hw4]; exact blk_alloc BA _
  have BR4 : w4.heap[w.heap.size]? = some (.cells #[.bool ra, .bool ri, .bool ro, .string rb, .string rv] 65) := by rw [← hw4]; exact blk_alloc BR _
  have h4 : Below w.heap.size w w4 := by rw [← hw4]; exact h3.alloc h3.size _
  have H4 := Lib.hid (And.intro h4 BR4)
  clear BA BR h3 h4 BR4
  go_upto_region 4 with fail
  go_cut [35] (fun s35 wx => s35 = .bool false ∧ Below w.heap.size w wx ∧ wx.heap[w.heap.size]? = some (.cells #[.bool ra, .bool ri, .bool ro, .string rb, .string rv] 65))
  case first =>
    generalize w3.heap.size = gb at *
    generalize w2.heap.size = ga at *
    have y0 : w4.cell? ⟨ga, 0, none⟩ = some (.bool pa) := blk_cell BA4 0
    have y1 : w4.cell? ⟨ga, 1, none⟩ = some (.bool pi) := blk_cell BA4 1
    have y2 : w4.cell? ⟨ga, 2, none⟩ = some (.bool po) := blk_cell BA4 2
    have y3 : w4.cell? ⟨ga, 3, none⟩ = some (.string pb) := blk_cell BA4 3
    have y4 : w4.cell? ⟨ga, 4, none⟩ = some (.string pv) := blk_cell BA4 4
    have z0 : w4.cell? ⟨gb, 0, none⟩ = some (.bool pa) := blk_cell BB 0
    have z1 : w4.cell? ⟨gb, 1, none⟩ = some (.bool pi) := blk_cell BB 1
    have z2 : w4.cell? ⟨gb, 2, none⟩ = some (.bool po) := blk_cell BB 2
    have z3 : w4.cell? ⟨gb, 3, none⟩ = some (.string pb) := blk_cell BB 3
    have z4 : w4.cell? ⟨gb, 4, none⟩ = some (.string pv) := blk_cell BB 4
    clear BA4 BB hw4
    go_wp2_with fail
    refine (C6.out _).mono ?_
    rintro e w5 ⟨rfl, hb5⟩
    have h5 := H4.out.1.trans (hb5.mono H4.out.1.size)
    have B5 := blk_below H4.out.2 hb5 (blk_lt H4.out.2)
    have H5 := Lib.hid (And.intro h5 B5)
    clear h5 B5 hb5
    go_wp2_with fail
    go_meet
    exact ⟨rfl, H5.out.1, H5.out.2⟩
  case rest =>
    obtain ⟨rfl, hbc, hBc⟩ := hcut
    go_step
    have H5 := Lib.hid (And.intro hbc hBc)
    clear H4 BB BA4 hw4 hbc hBc
    have x0 : wc.cell? ⟨w.heap.size, 0, none⟩ = some (.bool ra) := blk_cell H5.out.2 0
    have x1 : wc.cell? ⟨w.heap.size, 1, none⟩ = some (.bool ri) := blk_cell H5.out.2 1
    have x2 : wc.cell? ⟨w.heap.size, 2, none⟩ = some (.bool ro) := blk_cell H5.out.2 2
    have x3 : wc.cell? ⟨w.heap.size, 3, none⟩ = some (.string rb) := blk_cell H5.out.2 3
    have x4 : wc.cell? ⟨w.heap.size, 4, none⟩ = some (.string rv) := blk_cell H5.out.2 4
    go_wp2_with fail
    refine (C4.out _ H5.out.1).mono ?_
    rintro e w6 ⟨rfl, hb6⟩
    have H6 := Lib.hid (And.intro (H5.out.1.trans (hb6.mono H5.out.1.size)) (blk_below H5.out.2 hb6 (blk_lt H5.out.2)))
    clear x0 x1 x2 x3 x4 hb6 H5
    have x0 : w6.cell? ⟨w.heap.size, 0, none⟩ = some (.bool ra) := blk_cell H6.out.2 0
    have x1 : w6.cell? ⟨w.heap.size, 1, none⟩ = some (.bool ri) := blk_cell H6.out.2 1
    have x2 : w6.cell? ⟨w.heap.size, 2, none⟩ = some (.bool ro) := blk_cell H6.out.2 2
    have x3 : w6.cell? ⟨w.heap.size, 3, none⟩ = some (.string rb) := blk_cell H6.out.2 3
    have x4 : w6.cell? ⟨w.heap.size, 4, none⟩ = some (.string rv) := blk_cell H6.out.2 4
    go_wp2_with fail
    refine (C5.out _).mono ?_
    rintro e w7 ⟨rfl, hb7⟩
    have H7 := Lib.hid (And.intro (H6.out.1.trans (hb7.mono H6.out.1.size)) (blk_below H6.out.2 hb7 (blk_lt H6.out.2)))
    clear x0 x1 x2 x3 x4 hb7 H6
    go_wp2_with fail
    refine (C7.out _ H7.out.1).mono ?_
    rintro e w8 ⟨rfl, hb8⟩
    have h8 := H7.out.1.trans (hb8.mono H7.out.1.size)
    have B8 := blk_below H7.out.2 hb8 (blk_lt H7.out.2)
    obtain ⟨w9, hw9⟩ : ∃ w9, w8.alloc (.cells #[.bool qa, .bool qi, .bool qo, .string qb, .string qv] 65) = w9 := ⟨_, rfl⟩
    have BQ : w9.heap[w8.heap.size]? = some (.cells #[.bool qa, .bool qi, .bool qo, .string qb, .string qv] 65) := by rw [← hw9]; exact blk_new _ _
    have BR9 : w9.heap[w.heap.size]? = some (.cells #[.bool ra, .bool ri, .bool ro, .string rb, .string rv] 65) := by rw [← hw9]; exact blk_alloc B8 _
    have h9 : Below w.heap.size w w9 := by rw [← hw9]; exact h8.alloc h8.size _
    have H9 := Lib.hid h9
    clear h8 B8 hb8 H7 h9
    go_upto_region 12 with fail
    go_cut [76] (fun s76 wx => s76 = .bool false ∧ Below w.heap.size w wx)
    case first =>
      generalize w8.heap.size = gq at *
      have y0 : w9.cell? ⟨gq, 0, none⟩ = some (.bool qa) := blk_cell BQ 0
      have y1 : w9.cell? ⟨gq, 1, none⟩ = some (.bool qi) := blk_cell BQ 1
      have y2 : w9.cell? ⟨gq, 2, none⟩ = some (.bool qo) := blk_cell BQ 2
      have y3 : w9.cell? ⟨gq, 3, none⟩ = some (.string qb) := blk_cell BQ 3
      have y4 : w9.cell? ⟨gq, 4, none⟩ = some (.string qv) := blk_cell BQ 4
      have z0 : w9.cell? ⟨w.heap.size, 0, none⟩ = some (.bool ra) := blk_cell BR9 0
      have z1 : w9.cell? ⟨w.heap.size, 1, none⟩ = some (.bool ri) := blk_cell BR9 1
      have z2 : w9.cell? ⟨w.heap.size, 2, none⟩ = some (.bool ro) := blk_cell BR9 2
      have z3 : w9.cell? ⟨w.heap.size, 3, none⟩ = some (.string rb) := blk_cell BR9 3
      have z4 : w9.cell? ⟨w.heap.size, 4, none⟩ = some (.string rv) := blk_cell BR9 4
      clear BQ BR9 hw9
      go_wp2_with fail
      refine (C8.out _).mono ?_
      rintro e w10 ⟨rfl, hb10⟩
      have h10 := Lib.hid (H9.out.trans (hb10.mono H9.out.size))
      clear hb10
      go_wp2_with fail
      go_meet
      exact ⟨rfl, h10.out⟩
    case rest =>
      obtain ⟨rfl, hbc⟩ := hcut
      go_step
      have HC := Lib.hid hbc
      clear H9 hw9 BQ BR9 hbc
      go_wp2_with fail
      refine (C9.out _ HC.out).mono ?_
      rintro e w11 ⟨rfl, hb11⟩
      have h11 := HC.out.trans (hb11.mono HC.out.size)
      go_wp2_with fail
      go_ret
      exact ⟨rfl, h11⟩

theorem rules_any (w : World) (hT : Tabs w) (text : ByteArray) (r : Rule) (hb : r.by_.size ≤ 140737488355328) (hv : r.value.size ≤ 140737488355328) :
    Calls Tryd.prog 7 #[.string text, r.val] w fun e w' => e = .returned (.bool true) ∧ Below w.heap.size w w' := by
  have hcs := cutTo_size text 200
  have hts : (textS r).1.size ≤ 9223372036854775807 := by
    have := writeS_size r
    unfold textS
    split
    · show (0 : Nat) ≤ _; omega
    · split
      · show (writeS r).size ≤ _; omega
      · show (0 : Nat) ≤ _; omega
  obtain ⟨p, c, hpc⟩ := parseV_form (parseF (cutTo text 200))
  have C1 := fun W => text_any text 200 (by decide) W
  have C2 := fun W (hW : Below w.heap.size w W) => parse_full (cutTo text 200) W (hT.later hW) (by omega)
  have C3 := fun W => refparse_full (cutTo text 200) W (by omega)
  have C4 := fun W (hW : Below w.heap.size w W) => text17_any r hb hv W (hT.later hW)
  have C5 := fun W => reftext_any r hb hv W
  have C7 := fun W (hW : Below w.heap.size w W) => parse_full (textS r).1 W (hT.later hW) hts
  have C9 := fun W (hW : Below w.heap.size w W) => wakes17_any W (hT.later hW)
  rw [text_same] at C5
  rw [hpc] at C2 C3
  rcases textS_cases r with ⟨h2, h1⟩ | ⟨h2, q, hq, hs⟩
  · rw [h1, h2] at C4 C5
    exact rules_no w hT text _ c p r C1 C2 C3 C4 C5 C9
  · rw [h2] at C4 C5
    rw [hq] at C7
    exact rules_yes w hT text _ _ c p r q hs C1 C2 C3 C4 C5 C7 C9

end Go.Proofs.YthbjcihdlhkboaaDoor
