/- The reference's reader of rules: it reads what the program's reads. -/
import Derived.Test.YthbjcihdlhkboaaGreatDoorRf4
namespace Go.Proofs.YthbjcihdlhkboaaGreatDoor
set_option linter.unusedSimpArgs false
set_option linter.unusedVariables false
open Go.RowKit Go.Maps Go.Shelf Go.Lib

/-- Is the rule's head none? -/
def headBad (a1 : ByteArray) (f1 : Bool) (a2 : ByteArray) (f2 : Bool) : Bool :=
  !(f1 && (f2 && ((a1.toList == [97, 108, 108, 111, 119] || a1.toList == [100, 101, 110, 121]) && (a2.toList == [105, 110] || (a2.toList == [111, 117, 116] || a2.toList == [98, 111, 116, 104])))))

theorem parseS_bad {a1 a2 a3 r3 lv : ByteArray} {f1 f2 f3 valid : Bool} {le : Int} (h : headBad a1 f1 a2 f2 = true) : parseS a1 f1 a2 f2 a3 r3 f3 valid lv le = .error 2 := by
  unfold headBad at h
  unfold parseS
  revert h
  generalize (a1.toList == [97, 108, 108, 111, 119]) = p
  generalize (a1.toList == [100, 101, 110, 121]) = q
  generalize (a2.toList == [105, 110]) = x
  generalize (a2.toList == [111, 117, 116]) = y
  generalize (a2.toList == [98, 111, 116, 104]) = z
  cases f1 <;> cases f2 <;> cases p <;> cases q <;> cases x <;> cases y <;> cases z <;> simp
theorem parseS_good {a1 a2 a3 r3 lv : ByteArray} {f1 f2 f3 valid : Bool} {le : Int} (h : headBad a1 f1 a2 f2 = false) : parseS a1 f1 a2 f2 a3 r3 f3 valid lv le = thenRule (a1.toList == [97, 108, 108, 111, 119]) (!(a2.toList == [111, 117, 116])) (!(a2.toList == [105, 110])) a3 (valueS a3 r3 f3 valid lv le) := by
  unfold headBad at h
  unfold parseS
  revert h
  generalize (a1.toList == [97, 108, 108, 111, 119]) = p
  generalize (a1.toList == [100, 101, 110, 121]) = q
  generalize (a2.toList == [105, 110]) = x
  generalize (a2.toList == [111, 117, 116]) = y
  generalize (a2.toList == [98, 111, 116, 104]) = z
  cases f1 <;> cases f2 <;> cases p <;> cases q <;> cases x <;> cases y <;> cases z <;> simp

theorem vs_sub0 {a3 r3 lv : ByteArray} {valid : Bool} {le : Int} (ha : (a3.toList == [97, 108, 108]) = false) (hj : (a3.toList == [106, 105, 100]) = false) (hgp : (a3.toList == [103, 114, 111, 117, 112]) = false) (hsb : (a3.toList == [115, 117, 98]) = true) (hsu : subB r3 = true) :
    valueS a3 r3 true valid lv le = .ok r3 := by
  unfold subB at hsu
  unfold valueS
  rw [ha, hj, hgp, hsb]
  revert hsu
  generalize (r3.toList == [110, 111, 110, 101]) = x1
  generalize (r3.toList == [116, 111]) = x2
  generalize (r3.toList == [102, 114, 111, 109]) = x3
  generalize (r3.toList == [98, 111, 116, 104]) = x4
  cases x1 <;> cases x2 <;> cases x3 <;> cases x4 <;> simp
theorem vs_sub1 {a3 r3 lv : ByteArray} {valid : Bool} {le : Int} (ha : (a3.toList == [97, 108, 108]) = false) (hj : (a3.toList == [106, 105, 100]) = false) (hgp : (a3.toList == [103, 114, 111, 117, 112]) = false) (hsb : (a3.toList == [115, 117, 98]) = true) (hsu : subB r3 = false) :
    valueS a3 r3 true valid lv le = .error 2 := by
  unfold subB at hsu
  unfold valueS
  rw [ha, hj, hgp, hsb]
  revert hsu
  generalize (r3.toList == [110, 111, 110, 101]) = x1
  generalize (r3.toList == [116, 111]) = x2
  generalize (r3.toList == [102, 114, 111, 109]) = x3
  generalize (r3.toList == [98, 111, 116, 104]) = x4
  cases x1 <;> cases x2 <;> cases x3 <;> cases x4 <;> simp

set_option maxRecDepth 100000 in
set_option maxHeartbeats 8000000 in
theorem refparse_gen (s a1 r1 a2 r2 a3 r3 : ByteArray) (f1 f2 f3 valid : Bool) (lv : ByteArray) (le : Int) (w : World)
    (C1' : ∀ W, Calls Tryz.prog 129 #[.string s] W fun e w' => e = .returned (.tuple #[.string a1, .string r1, .bool f1]) ∧ Below W.heap.size W w')
    (C2' : ∀ W, Calls Tryz.prog 129 #[.string r1] W fun e w' => e = .returned (.tuple #[.string a2, .string r2, .bool f2]) ∧ Below W.heap.size W w')
    (C3' : ∀ W, Calls Tryz.prog 129 #[.string r2] W fun e w' => e = .returned (.tuple #[.string a3, .string r3, .bool f3]) ∧ Below W.heap.size W w')
    (CL' : ∀ W, Calls Tryz.prog 97 #[.string r3] W fun e w' => e = .returned (.tuple #[.string lv, .int .i64 le]) ∧ Below W.heap.size W w')
    (CW' : ∀ W, Calls Tryz.prog 85 #[.string r3] W fun e w' => e = .returned (.int .i64 (wordE r3 valid)) ∧ Below W.heap.size W w')
    (CS' : ∀ W, Calls Tryz.prog 130 #[.string r3] W fun e w' => e = .returned (.bool (subB r3)) ∧ Below W.heap.size W w')
    (RR : Value) (hRR : parseV (parseS a1 f1 a2 f2 a3 r3 f3 valid lv le) = RR) :
    Calls Tryz.prog 86 #[.string s] w fun e w' => e = .returned RR ∧ Below w.heap.size w w' := by
  have C1 := Lib.hid C1'
  have C2 := Lib.hid C2'
  have C3 := Lib.hid C3'
  have CL := Lib.hid CL'
  have CW := Lib.hid CW'
  have CS := Lib.hid CS'
  have HRR := Lib.hid hRR
  clear C1' C2' C3' CL' CW' CS' hRR
  go_enter Tryz.func86, Tryz.ntmps86
  go_wp2_with fail
  refine (C1.out _).mono ?_
  rintro e w1 ⟨rfl, hb1⟩
  have B0 : w1.heap[w.heap.size]? = some (.cells #[.bool false, .bool false, .bool false, .string ⟨#[]⟩, .string ⟨#[]⟩] 138) := blk_below (blk_alloc (blk_new _ _) _) hb1 (by simp; try omega)
  have B1 : w1.heap[w.heap.size + 1]? = some (.cells #[.bool false, .bool false, .bool false, .string ⟨#[]⟩, .string ⟨#[]⟩] 138) := blk_below (blk_new' _ (by simp)) hb1 (by simp; try omega)
  have hB : Below w.heap.size w w1 := Below.trans (by repeat (first | exact Below.refl _ _ | refine Below.alloc ?_ (by simp; try omega) _)) (hb1.mono (by simp; try omega))
  have H1 := Lib.hid (And.intro hB (And.intro B0 B1))
  clear hB B0 B1 hb1
  go_wp2_with fail
  refine (C2.out _).mono ?_
  rintro e w2 ⟨rfl, hb2⟩
  have H2 := Lib.hid (And.intro (H1.out.1.trans (hb2.mono H1.out.1.size)) (And.intro (blk_below H1.out.2.1 hb2 (blk_lt H1.out.2.1)) (blk_below H1.out.2.2 hb2 (blk_lt H1.out.2.2))))
  clear hb2 H1
  go_upto_region 4 with fail
  go_cut [55] (fun s55 wx => s55 = .bool (headBad a1 f1 a2 f2) ∧ wx = w2)
  case first =>
    clear C1 C2 C3 CL CW CS HRR H2
    cases f1
    · go_wp2_with fail
      go_meet
      exact ⟨by simp [headBad], rfl⟩
    · cases f2
      · go_wp2_with fail
        go_meet
        exact ⟨by simp [headBad], rfl⟩
      · cases h1 : (a1.toList == [97, 108, 108, 111, 119]) <;> cases h2 : (a1.toList == [100, 101, 110, 121]) <;> cases h3 : (a2.toList == [105, 110]) <;> cases h4 : (a2.toList == [111, 117, 116]) <;> cases h5 : (a2.toList == [98, 111, 116, 104])
        all_goals
          go_wp2_with fail
          go_meet
          exact ⟨by simp [headBad, h1, h2, h3, h4, h5], rfl⟩
  case rest =>
    obtain ⟨rfl, rfl⟩ := hcut
    go_step
    cases hbad : headBad a1 f1 a2 f2
    · rw [parseS_good hbad] at HRR
      clear hbad
      go_wp2_with fail
      refine (C3.out _).mono ?_
      rintro e w3 ⟨rfl, hb3⟩
      have H3 := Lib.hid (And.intro (H2.out.1.trans (hb3.mono H2.out.1.size)) (And.intro (blk_below H2.out.2.1 hb3 (blk_lt H2.out.2.1)) (blk_below H2.out.2.2 hb3 (blk_lt H2.out.2.2))))
      clear hb3 H2 C1 C2 C3
      go_upto_region 8 with fail
      generalize (a1.toList == [97, 108, 108, 111, 119]) = p at *
      generalize (!(a2.toList == [111, 117, 116])) = po at *
      generalize (!(a2.toList == [105, 110])) = pn at *
      obtain ⟨w4, hw4⟩ : ∃ w4, w3.alloc (.cells #[.bool p, .bool po, .bool pn, .string a3, .string r3] 138) = w4 := ⟨_, rfl⟩
      have BR : w4.heap[w3.heap.size]? = some (.cells #[.bool p, .bool po, .bool pn, .string a3, .string r3] 138) := by rw [← hw4]; exact blk_new _ _
      have B0 : w4.heap[w.heap.size]? = some (.cells #[.bool false, .bool false, .bool false, .string ⟨#[]⟩, .string ⟨#[]⟩] 138) := by rw [← hw4]; exact blk_alloc H3.out.2.1 _
      have B1 : w4.heap[w.heap.size + 1]? = some (.cells #[.bool false, .bool false, .bool false, .string ⟨#[]⟩, .string ⟨#[]⟩] 138) := by rw [← hw4]; exact blk_alloc H3.out.2.2 _
      have hB : Below w.heap.size w w4 := by rw [← hw4]; exact H3.out.1.alloc H3.out.1.size _
      have hgs : w.heap.size + 2 ≤ w3.heap.size := by have := blk_lt H3.out.2.2; omega
      rw [hw4]
      clear hw4 H3
      generalize w3.heap.size = g at *
      have H4 := Lib.hid (And.intro hB (And.intro B0 (And.intro B1 (And.intro BR hgs))))
      clear hB B0 B1 BR hgs
      -- WAYS
      cases ha : (a3.toList == [97, 108, 108])
      · cases f3
        · cases hj : (a3.toList == [106, 105, 100])
          · cases hgp : (a3.toList == [103, 114, 111, 117, 112])
            · cases hsb : (a3.toList == [115, 117, 98])
              · have hv : valueS a3 r3 false valid lv le = .error 2 := by simp [valueS, ha]
                rw [hv] at HRR
                clear hv CL CW CS
                have y0 : w4.cell? ⟨w.heap.size + 1, 0, none⟩ = some (.bool false) := blk_cell H4.out.2.2.1 0
                have x0 : w4.cell? ⟨w.heap.size, 0, none⟩ = some (.bool false) := blk_cell H4.out.2.1 0
                have z0 : w4.frozen? ⟨w.heap.size, 0, none⟩ = false := blk_frozen H4.out.2.1 0
                have q0 : w4.cell? ⟨g, 0, none⟩ = some (.bool p) := blk_cell H4.out.2.2.2.1 0
                have y1 : w4.cell? ⟨w.heap.size + 1, 1, none⟩ = some (.bool false) := blk_cell H4.out.2.2.1 1
                have x1 : w4.cell? ⟨w.heap.size, 1, none⟩ = some (.bool false) := blk_cell H4.out.2.1 1
                have z1 : w4.frozen? ⟨w.heap.size, 1, none⟩ = false := blk_frozen H4.out.2.1 1
                have q1 : w4.cell? ⟨g, 1, none⟩ = some (.bool po) := blk_cell H4.out.2.2.2.1 1
                have y2 : w4.cell? ⟨w.heap.size + 1, 2, none⟩ = some (.bool false) := blk_cell H4.out.2.2.1 2
                have x2 : w4.cell? ⟨w.heap.size, 2, none⟩ = some (.bool false) := blk_cell H4.out.2.1 2
                have z2 : w4.frozen? ⟨w.heap.size, 2, none⟩ = false := blk_frozen H4.out.2.1 2
                have q2 : w4.cell? ⟨g, 2, none⟩ = some (.bool pn) := blk_cell H4.out.2.2.2.1 2
                have y3 : w4.cell? ⟨w.heap.size + 1, 3, none⟩ = some (.string ⟨#[]⟩) := blk_cell H4.out.2.2.1 3
                have x3 : w4.cell? ⟨w.heap.size, 3, none⟩ = some (.string ⟨#[]⟩) := blk_cell H4.out.2.1 3
                have z3 : w4.frozen? ⟨w.heap.size, 3, none⟩ = false := blk_frozen H4.out.2.1 3
                have q3 : w4.cell? ⟨g, 3, none⟩ = some (.string a3) := blk_cell H4.out.2.2.2.1 3
                have y4 : w4.cell? ⟨w.heap.size + 1, 4, none⟩ = some (.string ⟨#[]⟩) := blk_cell H4.out.2.2.1 4
                have x4 : w4.cell? ⟨w.heap.size, 4, none⟩ = some (.string ⟨#[]⟩) := blk_cell H4.out.2.1 4
                have z4 : w4.frozen? ⟨w.heap.size, 4, none⟩ = false := blk_frozen H4.out.2.1 4
                have q4 : w4.cell? ⟨g, 4, none⟩ = some (.string r3) := blk_cell H4.out.2.2.2.1 4
                have q5 : w4.frozen? ⟨g, 4, none⟩ = false := blk_frozen H4.out.2.2.2.1 4
                have hg1 : (w.heap.size == g) = false := by have := H4.out.2.2.2.2; simp; omega
                have hg2 : ¬ w.heap.size = g := by have := H4.out.2.2.2.2; omega
                have hg3 : ¬ g = w.heap.size := by have := H4.out.2.2.2.2; omega
                have BB := blk_set5 H4.out.2.1 (.bool false) (.bool false) (.bool false) (.string ⟨#[]⟩) (.string ⟨#[]⟩)
                have BL := Lib.hid (below_set5 H4.out.1 (Nat.le_refl _) (.bool false) (.bool false) (.bool false) (.string ⟨#[]⟩) (.string ⟨#[]⟩))
                go_wp2_with fail
                generalize (((((w4.setCell ⟨w.heap.size, 0, none⟩ (.bool false)).setCell ⟨w.heap.size, 1, none⟩ (.bool false)).setCell ⟨w.heap.size, 2, none⟩ (.bool false)).setCell ⟨w.heap.size, 3, none⟩ (.string ⟨#[]⟩)).setCell ⟨w.heap.size, 4, none⟩ (.string ⟨#[]⟩)) = WW at *
                have k0 := blk_cell BB 0
                have k1 := blk_cell BB 1
                have k2 := blk_cell BB 2
                have k3 := blk_cell BB 3
                have k4 := blk_cell BB 4
                simp [bodyPost, results, Tryz.results86, go_sem, *]
                refine ⟨?_, BL.out⟩
                rw [← HRR.out]
                rfl
              · have hv : valueS a3 r3 false valid lv le = .error 2 := by simp [valueS, ha]
                rw [hv] at HRR
                clear hv CL CW CS
                have y0 : w4.cell? ⟨w.heap.size + 1, 0, none⟩ = some (.bool false) := blk_cell H4.out.2.2.1 0
                have x0 : w4.cell? ⟨w.heap.size, 0, none⟩ = some (.bool false) := blk_cell H4.out.2.1 0
                have z0 : w4.frozen? ⟨w.heap.size, 0, none⟩ = false := blk_frozen H4.out.2.1 0
                have q0 : w4.cell? ⟨g, 0, none⟩ = some (.bool p) := blk_cell H4.out.2.2.2.1 0
                have y1 : w4.cell? ⟨w.heap.size + 1, 1, none⟩ = some (.bool false) := blk_cell H4.out.2.2.1 1
                have x1 : w4.cell? ⟨w.heap.size, 1, none⟩ = some (.bool false) := blk_cell H4.out.2.1 1
                have z1 : w4.frozen? ⟨w.heap.size, 1, none⟩ = false := blk_frozen H4.out.2.1 1
                have q1 : w4.cell? ⟨g, 1, none⟩ = some (.bool po) := blk_cell H4.out.2.2.2.1 1
                have y2 : w4.cell? ⟨w.heap.size + 1, 2, none⟩ = some (.bool false) := blk_cell H4.out.2.2.1 2
                have x2 : w4.cell? ⟨w.heap.size, 2, none⟩ = some (.bool false) := blk_cell H4.out.2.1 2
                have z2 : w4.frozen? ⟨w.heap.size, 2, none⟩ = false := blk_frozen H4.out.2.1 2
                have q2 : w4.cell? ⟨g, 2, none⟩ = some (.bool pn) := blk_cell H4.out.2.2.2.1 2
                have y3 : w4.cell? ⟨w.heap.size + 1, 3, none⟩ = some (.string ⟨#[]⟩) := blk_cell H4.out.2.2.1 3
                have x3 : w4.cell? ⟨w.heap.size, 3, none⟩ = some (.string ⟨#[]⟩) := blk_cell H4.out.2.1 3
                have z3 : w4.frozen? ⟨w.heap.size, 3, none⟩ = false := blk_frozen H4.out.2.1 3
                have q3 : w4.cell? ⟨g, 3, none⟩ = some (.string a3) := blk_cell H4.out.2.2.2.1 3
                have y4 : w4.cell? ⟨w.heap.size + 1, 4, none⟩ = some (.string ⟨#[]⟩) := blk_cell H4.out.2.2.1 4
                have x4 : w4.cell? ⟨w.heap.size, 4, none⟩ = some (.string ⟨#[]⟩) := blk_cell H4.out.2.1 4
                have z4 : w4.frozen? ⟨w.heap.size, 4, none⟩ = false := blk_frozen H4.out.2.1 4
                have q4 : w4.cell? ⟨g, 4, none⟩ = some (.string r3) := blk_cell H4.out.2.2.2.1 4
                have q5 : w4.frozen? ⟨g, 4, none⟩ = false := blk_frozen H4.out.2.2.2.1 4
                have hg1 : (w.heap.size == g) = false := by have := H4.out.2.2.2.2; simp; omega
                have hg2 : ¬ w.heap.size = g := by have := H4.out.2.2.2.2; omega
                have hg3 : ¬ g = w.heap.size := by have := H4.out.2.2.2.2; omega
                have BB := blk_set5 H4.out.2.1 (.bool false) (.bool false) (.bool false) (.string ⟨#[]⟩) (.string ⟨#[]⟩)
                have BL := Lib.hid (below_set5 H4.out.1 (Nat.le_refl _) (.bool false) (.bool false) (.bool false) (.string ⟨#[]⟩) (.string ⟨#[]⟩))
                go_wp2_with fail
                generalize (((((w4.setCell ⟨w.heap.size, 0, none⟩ (.bool false)).setCell ⟨w.heap.size, 1, none⟩ (.bool false)).setCell ⟨w.heap.size, 2, none⟩ (.bool false)).setCell ⟨w.heap.size, 3, none⟩ (.string ⟨#[]⟩)).setCell ⟨w.heap.size, 4, none⟩ (.string ⟨#[]⟩)) = WW at *
                have k0 := blk_cell BB 0
                have k1 := blk_cell BB 1
                have k2 := blk_cell BB 2
                have k3 := blk_cell BB 3
                have k4 := blk_cell BB 4
                simp [bodyPost, results, Tryz.results86, go_sem, *]
                refine ⟨?_, BL.out⟩
                rw [← HRR.out]
                rfl
            · have hv : valueS a3 r3 false valid lv le = .error 2 := by simp [valueS, ha]
              rw [hv] at HRR
              clear hv CL CW CS
              have hsb : (a3.toList == [115, 117, 98]) = false := neq_of (l' := [115, 117, 98]) hgp (by decide)
              have y0 : w4.cell? ⟨w.heap.size + 1, 0, none⟩ = some (.bool false) := blk_cell H4.out.2.2.1 0
              have x0 : w4.cell? ⟨w.heap.size, 0, none⟩ = some (.bool false) := blk_cell H4.out.2.1 0
              have z0 : w4.frozen? ⟨w.heap.size, 0, none⟩ = false := blk_frozen H4.out.2.1 0
              have q0 : w4.cell? ⟨g, 0, none⟩ = some (.bool p) := blk_cell H4.out.2.2.2.1 0
              have y1 : w4.cell? ⟨w.heap.size + 1, 1, none⟩ = some (.bool false) := blk_cell H4.out.2.2.1 1
              have x1 : w4.cell? ⟨w.heap.size, 1, none⟩ = some (.bool false) := blk_cell H4.out.2.1 1
              have z1 : w4.frozen? ⟨w.heap.size, 1, none⟩ = false := blk_frozen H4.out.2.1 1
              have q1 : w4.cell? ⟨g, 1, none⟩ = some (.bool po) := blk_cell H4.out.2.2.2.1 1
              have y2 : w4.cell? ⟨w.heap.size + 1, 2, none⟩ = some (.bool false) := blk_cell H4.out.2.2.1 2
              have x2 : w4.cell? ⟨w.heap.size, 2, none⟩ = some (.bool false) := blk_cell H4.out.2.1 2
              have z2 : w4.frozen? ⟨w.heap.size, 2, none⟩ = false := blk_frozen H4.out.2.1 2
              have q2 : w4.cell? ⟨g, 2, none⟩ = some (.bool pn) := blk_cell H4.out.2.2.2.1 2
              have y3 : w4.cell? ⟨w.heap.size + 1, 3, none⟩ = some (.string ⟨#[]⟩) := blk_cell H4.out.2.2.1 3
              have x3 : w4.cell? ⟨w.heap.size, 3, none⟩ = some (.string ⟨#[]⟩) := blk_cell H4.out.2.1 3
              have z3 : w4.frozen? ⟨w.heap.size, 3, none⟩ = false := blk_frozen H4.out.2.1 3
              have q3 : w4.cell? ⟨g, 3, none⟩ = some (.string a3) := blk_cell H4.out.2.2.2.1 3
              have y4 : w4.cell? ⟨w.heap.size + 1, 4, none⟩ = some (.string ⟨#[]⟩) := blk_cell H4.out.2.2.1 4
              have x4 : w4.cell? ⟨w.heap.size, 4, none⟩ = some (.string ⟨#[]⟩) := blk_cell H4.out.2.1 4
              have z4 : w4.frozen? ⟨w.heap.size, 4, none⟩ = false := blk_frozen H4.out.2.1 4
              have q4 : w4.cell? ⟨g, 4, none⟩ = some (.string r3) := blk_cell H4.out.2.2.2.1 4
              have q5 : w4.frozen? ⟨g, 4, none⟩ = false := blk_frozen H4.out.2.2.2.1 4
              have hg1 : (w.heap.size == g) = false := by have := H4.out.2.2.2.2; simp; omega
              have hg2 : ¬ w.heap.size = g := by have := H4.out.2.2.2.2; omega
              have hg3 : ¬ g = w.heap.size := by have := H4.out.2.2.2.2; omega
              have BB := blk_set5 H4.out.2.1 (.bool false) (.bool false) (.bool false) (.string ⟨#[]⟩) (.string ⟨#[]⟩)
              have BL := Lib.hid (below_set5 H4.out.1 (Nat.le_refl _) (.bool false) (.bool false) (.bool false) (.string ⟨#[]⟩) (.string ⟨#[]⟩))
              go_wp2_with fail
              generalize (((((w4.setCell ⟨w.heap.size, 0, none⟩ (.bool false)).setCell ⟨w.heap.size, 1, none⟩ (.bool false)).setCell ⟨w.heap.size, 2, none⟩ (.bool false)).setCell ⟨w.heap.size, 3, none⟩ (.string ⟨#[]⟩)).setCell ⟨w.heap.size, 4, none⟩ (.string ⟨#[]⟩)) = WW at *
              have k0 := blk_cell BB 0
              have k1 := blk_cell BB 1
              have k2 := blk_cell BB 2
              have k3 := blk_cell BB 3
              have k4 := blk_cell BB 4
              simp [bodyPost, results, Tryz.results86, go_sem, *]
              refine ⟨?_, BL.out⟩
              rw [← HRR.out]
              rfl
          · have hv : valueS a3 r3 false valid lv le = .error 2 := by simp [valueS, ha]
            rw [hv] at HRR
            clear hv CL CW CS
            have hgp : (a3.toList == [103, 114, 111, 117, 112]) = false := neq_of (l' := [103, 114, 111, 117, 112]) hj (by decide)
            have hsb : (a3.toList == [115, 117, 98]) = false := neq_of (l' := [115, 117, 98]) hj (by decide)
            have y0 : w4.cell? ⟨w.heap.size + 1, 0, none⟩ = some (.bool false) := blk_cell H4.out.2.2.1 0
            have x0 : w4.cell? ⟨w.heap.size, 0, none⟩ = some (.bool false) := blk_cell H4.out.2.1 0
            have z0 : w4.frozen? ⟨w.heap.size, 0, none⟩ = false := blk_frozen H4.out.2.1 0
            have q0 : w4.cell? ⟨g, 0, none⟩ = some (.bool p) := blk_cell H4.out.2.2.2.1 0
            have y1 : w4.cell? ⟨w.heap.size + 1, 1, none⟩ = some (.bool false) := blk_cell H4.out.2.2.1 1
            have x1 : w4.cell? ⟨w.heap.size, 1, none⟩ = some (.bool false) := blk_cell H4.out.2.1 1
            have z1 : w4.frozen? ⟨w.heap.size, 1, none⟩ = false := blk_frozen H4.out.2.1 1
            have q1 : w4.cell? ⟨g, 1, none⟩ = some (.bool po) := blk_cell H4.out.2.2.2.1 1
            have y2 : w4.cell? ⟨w.heap.size + 1, 2, none⟩ = some (.bool false) := blk_cell H4.out.2.2.1 2
            have x2 : w4.cell? ⟨w.heap.size, 2, none⟩ = some (.bool false) := blk_cell H4.out.2.1 2
            have z2 : w4.frozen? ⟨w.heap.size, 2, none⟩ = false := blk_frozen H4.out.2.1 2
            have q2 : w4.cell? ⟨g, 2, none⟩ = some (.bool pn) := blk_cell H4.out.2.2.2.1 2
            have y3 : w4.cell? ⟨w.heap.size + 1, 3, none⟩ = some (.string ⟨#[]⟩) := blk_cell H4.out.2.2.1 3
            have x3 : w4.cell? ⟨w.heap.size, 3, none⟩ = some (.string ⟨#[]⟩) := blk_cell H4.out.2.1 3
            have z3 : w4.frozen? ⟨w.heap.size, 3, none⟩ = false := blk_frozen H4.out.2.1 3
            have q3 : w4.cell? ⟨g, 3, none⟩ = some (.string a3) := blk_cell H4.out.2.2.2.1 3
            have y4 : w4.cell? ⟨w.heap.size + 1, 4, none⟩ = some (.string ⟨#[]⟩) := blk_cell H4.out.2.2.1 4
            have x4 : w4.cell? ⟨w.heap.size, 4, none⟩ = some (.string ⟨#[]⟩) := blk_cell H4.out.2.1 4
            have z4 : w4.frozen? ⟨w.heap.size, 4, none⟩ = false := blk_frozen H4.out.2.1 4
            have q4 : w4.cell? ⟨g, 4, none⟩ = some (.string r3) := blk_cell H4.out.2.2.2.1 4
            have q5 : w4.frozen? ⟨g, 4, none⟩ = false := blk_frozen H4.out.2.2.2.1 4
            have hg1 : (w.heap.size == g) = false := by have := H4.out.2.2.2.2; simp; omega
            have hg2 : ¬ w.heap.size = g := by have := H4.out.2.2.2.2; omega
            have hg3 : ¬ g = w.heap.size := by have := H4.out.2.2.2.2; omega
            have BB := blk_set5 H4.out.2.1 (.bool false) (.bool false) (.bool false) (.string ⟨#[]⟩) (.string ⟨#[]⟩)
            have BL := Lib.hid (below_set5 H4.out.1 (Nat.le_refl _) (.bool false) (.bool false) (.bool false) (.string ⟨#[]⟩) (.string ⟨#[]⟩))
            go_wp2_with fail
            generalize (((((w4.setCell ⟨w.heap.size, 0, none⟩ (.bool false)).setCell ⟨w.heap.size, 1, none⟩ (.bool false)).setCell ⟨w.heap.size, 2, none⟩ (.bool false)).setCell ⟨w.heap.size, 3, none⟩ (.string ⟨#[]⟩)).setCell ⟨w.heap.size, 4, none⟩ (.string ⟨#[]⟩)) = WW at *
            have k0 := blk_cell BB 0
            have k1 := blk_cell BB 1
            have k2 := blk_cell BB 2
            have k3 := blk_cell BB 3
            have k4 := blk_cell BB 4
            simp [bodyPost, results, Tryz.results86, go_sem, *]
            refine ⟨?_, BL.out⟩
            rw [← HRR.out]
            rfl
        · cases hj : (a3.toList == [106, 105, 100])
          · cases hgp : (a3.toList == [103, 114, 111, 117, 112])
            · cases hsb : (a3.toList == [115, 117, 98])
              · have hv : valueS a3 r3 true valid lv le = .error 2 := by simp [valueS, ha, hj, hgp, hsb]
                rw [hv] at HRR
                clear hv CL CW CS
                have y0 : w4.cell? ⟨w.heap.size + 1, 0, none⟩ = some (.bool false) := blk_cell H4.out.2.2.1 0
                have x0 : w4.cell? ⟨w.heap.size, 0, none⟩ = some (.bool false) := blk_cell H4.out.2.1 0
                have z0 : w4.frozen? ⟨w.heap.size, 0, none⟩ = false := blk_frozen H4.out.2.1 0
                have q0 : w4.cell? ⟨g, 0, none⟩ = some (.bool p) := blk_cell H4.out.2.2.2.1 0
                have y1 : w4.cell? ⟨w.heap.size + 1, 1, none⟩ = some (.bool false) := blk_cell H4.out.2.2.1 1
                have x1 : w4.cell? ⟨w.heap.size, 1, none⟩ = some (.bool false) := blk_cell H4.out.2.1 1
                have z1 : w4.frozen? ⟨w.heap.size, 1, none⟩ = false := blk_frozen H4.out.2.1 1
                have q1 : w4.cell? ⟨g, 1, none⟩ = some (.bool po) := blk_cell H4.out.2.2.2.1 1
                have y2 : w4.cell? ⟨w.heap.size + 1, 2, none⟩ = some (.bool false) := blk_cell H4.out.2.2.1 2
                have x2 : w4.cell? ⟨w.heap.size, 2, none⟩ = some (.bool false) := blk_cell H4.out.2.1 2
                have z2 : w4.frozen? ⟨w.heap.size, 2, none⟩ = false := blk_frozen H4.out.2.1 2
                have q2 : w4.cell? ⟨g, 2, none⟩ = some (.bool pn) := blk_cell H4.out.2.2.2.1 2
                have y3 : w4.cell? ⟨w.heap.size + 1, 3, none⟩ = some (.string ⟨#[]⟩) := blk_cell H4.out.2.2.1 3
                have x3 : w4.cell? ⟨w.heap.size, 3, none⟩ = some (.string ⟨#[]⟩) := blk_cell H4.out.2.1 3
                have z3 : w4.frozen? ⟨w.heap.size, 3, none⟩ = false := blk_frozen H4.out.2.1 3
                have q3 : w4.cell? ⟨g, 3, none⟩ = some (.string a3) := blk_cell H4.out.2.2.2.1 3
                have y4 : w4.cell? ⟨w.heap.size + 1, 4, none⟩ = some (.string ⟨#[]⟩) := blk_cell H4.out.2.2.1 4
                have x4 : w4.cell? ⟨w.heap.size, 4, none⟩ = some (.string ⟨#[]⟩) := blk_cell H4.out.2.1 4
                have z4 : w4.frozen? ⟨w.heap.size, 4, none⟩ = false := blk_frozen H4.out.2.1 4
                have q4 : w4.cell? ⟨g, 4, none⟩ = some (.string r3) := blk_cell H4.out.2.2.2.1 4
                have q5 : w4.frozen? ⟨g, 4, none⟩ = false := blk_frozen H4.out.2.2.2.1 4
                have hg1 : (w.heap.size == g) = false := by have := H4.out.2.2.2.2; simp; omega
                have hg2 : ¬ w.heap.size = g := by have := H4.out.2.2.2.2; omega
                have hg3 : ¬ g = w.heap.size := by have := H4.out.2.2.2.2; omega
                have BB := blk_set5 H4.out.2.1 (.bool false) (.bool false) (.bool false) (.string ⟨#[]⟩) (.string ⟨#[]⟩)
                have BL := Lib.hid (below_set5 H4.out.1 (Nat.le_refl _) (.bool false) (.bool false) (.bool false) (.string ⟨#[]⟩) (.string ⟨#[]⟩))
                go_wp2_with fail
                generalize (((((w4.setCell ⟨w.heap.size, 0, none⟩ (.bool false)).setCell ⟨w.heap.size, 1, none⟩ (.bool false)).setCell ⟨w.heap.size, 2, none⟩ (.bool false)).setCell ⟨w.heap.size, 3, none⟩ (.string ⟨#[]⟩)).setCell ⟨w.heap.size, 4, none⟩ (.string ⟨#[]⟩)) = WW at *
                have k0 := blk_cell BB 0
                have k1 := blk_cell BB 1
                have k2 := blk_cell BB 2
                have k3 := blk_cell BB 3
                have k4 := blk_cell BB 4
                simp [bodyPost, results, Tryz.results86, go_sem, *]
                refine ⟨?_, BL.out⟩
                rw [← HRR.out]
                rfl
              · cases hsu : subB r3
                · have hv := vs_sub1 (valid := valid) (lv := lv) (le := le) ha hj hgp hsb hsu
                  rw [hv] at HRR
                  rw [hsu] at CS
                  clear hv CL CW
                  go_wp2_with fail
                  refine (CS.out _).mono ?_
                  rintro e w5 ⟨rfl, hb⟩
                  have H5 := Lib.hid (And.intro (H4.out.1.trans (hb.mono H4.out.1.size)) (And.intro (blk_below H4.out.2.1 hb (blk_lt H4.out.2.1)) (And.intro (blk_below H4.out.2.2.1 hb (blk_lt H4.out.2.2.1)) (And.intro (blk_below H4.out.2.2.2.1 hb (blk_lt H4.out.2.2.2.1)) H4.out.2.2.2.2))))
                  clear hb
                  have y0 : w5.cell? ⟨w.heap.size + 1, 0, none⟩ = some (.bool false) := blk_cell H5.out.2.2.1 0
                  have x0 : w5.cell? ⟨w.heap.size, 0, none⟩ = some (.bool false) := blk_cell H5.out.2.1 0
                  have z0 : w5.frozen? ⟨w.heap.size, 0, none⟩ = false := blk_frozen H5.out.2.1 0
                  have q0 : w5.cell? ⟨g, 0, none⟩ = some (.bool p) := blk_cell H5.out.2.2.2.1 0
                  have y1 : w5.cell? ⟨w.heap.size + 1, 1, none⟩ = some (.bool false) := blk_cell H5.out.2.2.1 1
                  have x1 : w5.cell? ⟨w.heap.size, 1, none⟩ = some (.bool false) := blk_cell H5.out.2.1 1
                  have z1 : w5.frozen? ⟨w.heap.size, 1, none⟩ = false := blk_frozen H5.out.2.1 1
                  have q1 : w5.cell? ⟨g, 1, none⟩ = some (.bool po) := blk_cell H5.out.2.2.2.1 1
                  have y2 : w5.cell? ⟨w.heap.size + 1, 2, none⟩ = some (.bool false) := blk_cell H5.out.2.2.1 2
                  have x2 : w5.cell? ⟨w.heap.size, 2, none⟩ = some (.bool false) := blk_cell H5.out.2.1 2
                  have z2 : w5.frozen? ⟨w.heap.size, 2, none⟩ = false := blk_frozen H5.out.2.1 2
                  have q2 : w5.cell? ⟨g, 2, none⟩ = some (.bool pn) := blk_cell H5.out.2.2.2.1 2
                  have y3 : w5.cell? ⟨w.heap.size + 1, 3, none⟩ = some (.string ⟨#[]⟩) := blk_cell H5.out.2.2.1 3
                  have x3 : w5.cell? ⟨w.heap.size, 3, none⟩ = some (.string ⟨#[]⟩) := blk_cell H5.out.2.1 3
                  have z3 : w5.frozen? ⟨w.heap.size, 3, none⟩ = false := blk_frozen H5.out.2.1 3
                  have q3 : w5.cell? ⟨g, 3, none⟩ = some (.string a3) := blk_cell H5.out.2.2.2.1 3
                  have y4 : w5.cell? ⟨w.heap.size + 1, 4, none⟩ = some (.string ⟨#[]⟩) := blk_cell H5.out.2.2.1 4
                  have x4 : w5.cell? ⟨w.heap.size, 4, none⟩ = some (.string ⟨#[]⟩) := blk_cell H5.out.2.1 4
                  have z4 : w5.frozen? ⟨w.heap.size, 4, none⟩ = false := blk_frozen H5.out.2.1 4
                  have q4 : w5.cell? ⟨g, 4, none⟩ = some (.string r3) := blk_cell H5.out.2.2.2.1 4
                  have q5 : w5.frozen? ⟨g, 4, none⟩ = false := blk_frozen H5.out.2.2.2.1 4
                  have hg1 : (w.heap.size == g) = false := by have := H5.out.2.2.2.2; simp; omega
                  have hg2 : ¬ w.heap.size = g := by have := H5.out.2.2.2.2; omega
                  have hg3 : ¬ g = w.heap.size := by have := H5.out.2.2.2.2; omega
                  have BB := blk_set5 H5.out.2.1 (.bool false) (.bool false) (.bool false) (.string ⟨#[]⟩) (.string ⟨#[]⟩)
                  have BL := Lib.hid (below_set5 H5.out.1 (Nat.le_refl _) (.bool false) (.bool false) (.bool false) (.string ⟨#[]⟩) (.string ⟨#[]⟩))
                  go_wp2_with fail
                  generalize (((((w5.setCell ⟨w.heap.size, 0, none⟩ (.bool false)).setCell ⟨w.heap.size, 1, none⟩ (.bool false)).setCell ⟨w.heap.size, 2, none⟩ (.bool false)).setCell ⟨w.heap.size, 3, none⟩ (.string ⟨#[]⟩)).setCell ⟨w.heap.size, 4, none⟩ (.string ⟨#[]⟩)) = WW at *
                  have k0 := blk_cell BB 0
                  have k1 := blk_cell BB 1
                  have k2 := blk_cell BB 2
                  have k3 := blk_cell BB 3
                  have k4 := blk_cell BB 4
                  simp [bodyPost, results, Tryz.results86, go_sem, *]
                  refine ⟨?_, BL.out⟩
                  rw [← HRR.out]
                  rfl
                · have hv := vs_sub0 (valid := valid) (lv := lv) (le := le) ha hj hgp hsb hsu
                  rw [hv] at HRR
                  rw [hsu] at CS
                  clear hv CL CW
                  go_wp2_with fail
                  refine (CS.out _).mono ?_
                  rintro e w5 ⟨rfl, hb⟩
                  have H5 := Lib.hid (And.intro (H4.out.1.trans (hb.mono H4.out.1.size)) (And.intro (blk_below H4.out.2.1 hb (blk_lt H4.out.2.1)) (And.intro (blk_below H4.out.2.2.1 hb (blk_lt H4.out.2.2.1)) (And.intro (blk_below H4.out.2.2.2.1 hb (blk_lt H4.out.2.2.2.1)) H4.out.2.2.2.2))))
                  clear hb
                  have y0 : w5.cell? ⟨w.heap.size + 1, 0, none⟩ = some (.bool false) := blk_cell H5.out.2.2.1 0
                  have x0 : w5.cell? ⟨w.heap.size, 0, none⟩ = some (.bool false) := blk_cell H5.out.2.1 0
                  have z0 : w5.frozen? ⟨w.heap.size, 0, none⟩ = false := blk_frozen H5.out.2.1 0
                  have q0 : w5.cell? ⟨g, 0, none⟩ = some (.bool p) := blk_cell H5.out.2.2.2.1 0
                  have y1 : w5.cell? ⟨w.heap.size + 1, 1, none⟩ = some (.bool false) := blk_cell H5.out.2.2.1 1
                  have x1 : w5.cell? ⟨w.heap.size, 1, none⟩ = some (.bool false) := blk_cell H5.out.2.1 1
                  have z1 : w5.frozen? ⟨w.heap.size, 1, none⟩ = false := blk_frozen H5.out.2.1 1
                  have q1 : w5.cell? ⟨g, 1, none⟩ = some (.bool po) := blk_cell H5.out.2.2.2.1 1
                  have y2 : w5.cell? ⟨w.heap.size + 1, 2, none⟩ = some (.bool false) := blk_cell H5.out.2.2.1 2
                  have x2 : w5.cell? ⟨w.heap.size, 2, none⟩ = some (.bool false) := blk_cell H5.out.2.1 2
                  have z2 : w5.frozen? ⟨w.heap.size, 2, none⟩ = false := blk_frozen H5.out.2.1 2
                  have q2 : w5.cell? ⟨g, 2, none⟩ = some (.bool pn) := blk_cell H5.out.2.2.2.1 2
                  have y3 : w5.cell? ⟨w.heap.size + 1, 3, none⟩ = some (.string ⟨#[]⟩) := blk_cell H5.out.2.2.1 3
                  have x3 : w5.cell? ⟨w.heap.size, 3, none⟩ = some (.string ⟨#[]⟩) := blk_cell H5.out.2.1 3
                  have z3 : w5.frozen? ⟨w.heap.size, 3, none⟩ = false := blk_frozen H5.out.2.1 3
                  have q3 : w5.cell? ⟨g, 3, none⟩ = some (.string a3) := blk_cell H5.out.2.2.2.1 3
                  have y4 : w5.cell? ⟨w.heap.size + 1, 4, none⟩ = some (.string ⟨#[]⟩) := blk_cell H5.out.2.2.1 4
                  have x4 : w5.cell? ⟨w.heap.size, 4, none⟩ = some (.string ⟨#[]⟩) := blk_cell H5.out.2.1 4
                  have z4 : w5.frozen? ⟨w.heap.size, 4, none⟩ = false := blk_frozen H5.out.2.1 4
                  have q4 : w5.cell? ⟨g, 4, none⟩ = some (.string r3) := blk_cell H5.out.2.2.2.1 4
                  have q5 : w5.frozen? ⟨g, 4, none⟩ = false := blk_frozen H5.out.2.2.2.1 4
                  have hg1 : (w.heap.size == g) = false := by have := H5.out.2.2.2.2; simp; omega
                  have hg2 : ¬ w.heap.size = g := by have := H5.out.2.2.2.2; omega
                  have hg3 : ¬ g = w.heap.size := by have := H5.out.2.2.2.2; omega
                  have BB := blk_set5 H5.out.2.1 (.bool p) (.bool po) (.bool pn) (.string a3) (.string r3)
                  have BL := Lib.hid (below_set5 H5.out.1 (Nat.le_refl _) (.bool p) (.bool po) (.bool pn) (.string a3) (.string r3))
                  go_wp2_with fail
                  generalize (((((w5.setCell ⟨w.heap.size, 0, none⟩ (.bool p)).setCell ⟨w.heap.size, 1, none⟩ (.bool po)).setCell ⟨w.heap.size, 2, none⟩ (.bool pn)).setCell ⟨w.heap.size, 3, none⟩ (.string a3)).setCell ⟨w.heap.size, 4, none⟩ (.string r3)) = WW at *
                  have k0 := blk_cell BB 0
                  have k1 := blk_cell BB 1
                  have k2 := blk_cell BB 2
                  have k3 := blk_cell BB 3
                  have k4 := blk_cell BB 4
                  simp [bodyPost, results, Tryz.results86, go_sem, *]
                  refine ⟨?_, BL.out⟩
                  rw [← HRR.out]
                  rfl
            · cases h0 : (wordE r3 valid == 0)
              · have hsb : (a3.toList == [115, 117, 98]) = false := neq_of (l' := [115, 117, 98]) hgp (by decide)
                have hle : ¬ wordE r3 valid = 0 := by simpa using h0
                have hv : valueS a3 r3 true valid lv le = .error (wordE r3 valid) := by simp [valueS, ha, hj, hgp, hle]
                rw [hv] at HRR
                clear hv hle CL CS
                generalize wordE r3 valid = WE at *
                have h1 : (WE != 0) = true := by simpa using h0
                go_wp2_with fail
                refine (CW.out _).mono ?_
                rintro e w5 ⟨rfl, hb⟩
                have H5 := Lib.hid (And.intro (H4.out.1.trans (hb.mono H4.out.1.size)) (And.intro (blk_below H4.out.2.1 hb (blk_lt H4.out.2.1)) (And.intro (blk_below H4.out.2.2.1 hb (blk_lt H4.out.2.2.1)) (And.intro (blk_below H4.out.2.2.2.1 hb (blk_lt H4.out.2.2.2.1)) H4.out.2.2.2.2))))
                clear hb
                have y0 : w5.cell? ⟨w.heap.size + 1, 0, none⟩ = some (.bool false) := blk_cell H5.out.2.2.1 0
                have x0 : w5.cell? ⟨w.heap.size, 0, none⟩ = some (.bool false) := blk_cell H5.out.2.1 0
                have z0 : w5.frozen? ⟨w.heap.size, 0, none⟩ = false := blk_frozen H5.out.2.1 0
                have q0 : w5.cell? ⟨g, 0, none⟩ = some (.bool p) := blk_cell H5.out.2.2.2.1 0
                have y1 : w5.cell? ⟨w.heap.size + 1, 1, none⟩ = some (.bool false) := blk_cell H5.out.2.2.1 1
                have x1 : w5.cell? ⟨w.heap.size, 1, none⟩ = some (.bool false) := blk_cell H5.out.2.1 1
                have z1 : w5.frozen? ⟨w.heap.size, 1, none⟩ = false := blk_frozen H5.out.2.1 1
                have q1 : w5.cell? ⟨g, 1, none⟩ = some (.bool po) := blk_cell H5.out.2.2.2.1 1
                have y2 : w5.cell? ⟨w.heap.size + 1, 2, none⟩ = some (.bool false) := blk_cell H5.out.2.2.1 2
                have x2 : w5.cell? ⟨w.heap.size, 2, none⟩ = some (.bool false) := blk_cell H5.out.2.1 2
                have z2 : w5.frozen? ⟨w.heap.size, 2, none⟩ = false := blk_frozen H5.out.2.1 2
                have q2 : w5.cell? ⟨g, 2, none⟩ = some (.bool pn) := blk_cell H5.out.2.2.2.1 2
                have y3 : w5.cell? ⟨w.heap.size + 1, 3, none⟩ = some (.string ⟨#[]⟩) := blk_cell H5.out.2.2.1 3
                have x3 : w5.cell? ⟨w.heap.size, 3, none⟩ = some (.string ⟨#[]⟩) := blk_cell H5.out.2.1 3
                have z3 : w5.frozen? ⟨w.heap.size, 3, none⟩ = false := blk_frozen H5.out.2.1 3
                have q3 : w5.cell? ⟨g, 3, none⟩ = some (.string a3) := blk_cell H5.out.2.2.2.1 3
                have y4 : w5.cell? ⟨w.heap.size + 1, 4, none⟩ = some (.string ⟨#[]⟩) := blk_cell H5.out.2.2.1 4
                have x4 : w5.cell? ⟨w.heap.size, 4, none⟩ = some (.string ⟨#[]⟩) := blk_cell H5.out.2.1 4
                have z4 : w5.frozen? ⟨w.heap.size, 4, none⟩ = false := blk_frozen H5.out.2.1 4
                have q4 : w5.cell? ⟨g, 4, none⟩ = some (.string r3) := blk_cell H5.out.2.2.2.1 4
                have q5 : w5.frozen? ⟨g, 4, none⟩ = false := blk_frozen H5.out.2.2.2.1 4
                have hg1 : (w.heap.size == g) = false := by have := H5.out.2.2.2.2; simp; omega
                have hg2 : ¬ w.heap.size = g := by have := H5.out.2.2.2.2; omega
                have hg3 : ¬ g = w.heap.size := by have := H5.out.2.2.2.2; omega
                have BB := blk_set5 H5.out.2.1 (.bool false) (.bool false) (.bool false) (.string ⟨#[]⟩) (.string ⟨#[]⟩)
                have BL := Lib.hid (below_set5 H5.out.1 (Nat.le_refl _) (.bool false) (.bool false) (.bool false) (.string ⟨#[]⟩) (.string ⟨#[]⟩))
                go_wp2_with fail
                generalize (((((w5.setCell ⟨w.heap.size, 0, none⟩ (.bool false)).setCell ⟨w.heap.size, 1, none⟩ (.bool false)).setCell ⟨w.heap.size, 2, none⟩ (.bool false)).setCell ⟨w.heap.size, 3, none⟩ (.string ⟨#[]⟩)).setCell ⟨w.heap.size, 4, none⟩ (.string ⟨#[]⟩)) = WW at *
                have k0 := blk_cell BB 0
                have k1 := blk_cell BB 1
                have k2 := blk_cell BB 2
                have k3 := blk_cell BB 3
                have k4 := blk_cell BB 4
                simp [bodyPost, results, Tryz.results86, go_sem, *]
                refine ⟨?_, BL.out⟩
                rw [← HRR.out]
                rfl
              · have hsb : (a3.toList == [115, 117, 98]) = false := neq_of (l' := [115, 117, 98]) hgp (by decide)
                have hle : wordE r3 valid = 0 := by simpa using h0
                have hv : valueS a3 r3 true valid lv le = .ok r3 := by simp [valueS, ha, hj, hgp, hle]
                rw [hv] at HRR
                rw [hle] at CW
                clear hv CL CS hle h0
                go_wp2_with fail
                refine (CW.out _).mono ?_
                rintro e w5 ⟨rfl, hb⟩
                have H5 := Lib.hid (And.intro (H4.out.1.trans (hb.mono H4.out.1.size)) (And.intro (blk_below H4.out.2.1 hb (blk_lt H4.out.2.1)) (And.intro (blk_below H4.out.2.2.1 hb (blk_lt H4.out.2.2.1)) (And.intro (blk_below H4.out.2.2.2.1 hb (blk_lt H4.out.2.2.2.1)) H4.out.2.2.2.2))))
                clear hb
                have y0 : w5.cell? ⟨w.heap.size + 1, 0, none⟩ = some (.bool false) := blk_cell H5.out.2.2.1 0
                have x0 : w5.cell? ⟨w.heap.size, 0, none⟩ = some (.bool false) := blk_cell H5.out.2.1 0
                have z0 : w5.frozen? ⟨w.heap.size, 0, none⟩ = false := blk_frozen H5.out.2.1 0
                have q0 : w5.cell? ⟨g, 0, none⟩ = some (.bool p) := blk_cell H5.out.2.2.2.1 0
                have y1 : w5.cell? ⟨w.heap.size + 1, 1, none⟩ = some (.bool false) := blk_cell H5.out.2.2.1 1
                have x1 : w5.cell? ⟨w.heap.size, 1, none⟩ = some (.bool false) := blk_cell H5.out.2.1 1
                have z1 : w5.frozen? ⟨w.heap.size, 1, none⟩ = false := blk_frozen H5.out.2.1 1
                have q1 : w5.cell? ⟨g, 1, none⟩ = some (.bool po) := blk_cell H5.out.2.2.2.1 1
                have y2 : w5.cell? ⟨w.heap.size + 1, 2, none⟩ = some (.bool false) := blk_cell H5.out.2.2.1 2
                have x2 : w5.cell? ⟨w.heap.size, 2, none⟩ = some (.bool false) := blk_cell H5.out.2.1 2
                have z2 : w5.frozen? ⟨w.heap.size, 2, none⟩ = false := blk_frozen H5.out.2.1 2
                have q2 : w5.cell? ⟨g, 2, none⟩ = some (.bool pn) := blk_cell H5.out.2.2.2.1 2
                have y3 : w5.cell? ⟨w.heap.size + 1, 3, none⟩ = some (.string ⟨#[]⟩) := blk_cell H5.out.2.2.1 3
                have x3 : w5.cell? ⟨w.heap.size, 3, none⟩ = some (.string ⟨#[]⟩) := blk_cell H5.out.2.1 3
                have z3 : w5.frozen? ⟨w.heap.size, 3, none⟩ = false := blk_frozen H5.out.2.1 3
                have q3 : w5.cell? ⟨g, 3, none⟩ = some (.string a3) := blk_cell H5.out.2.2.2.1 3
                have y4 : w5.cell? ⟨w.heap.size + 1, 4, none⟩ = some (.string ⟨#[]⟩) := blk_cell H5.out.2.2.1 4
                have x4 : w5.cell? ⟨w.heap.size, 4, none⟩ = some (.string ⟨#[]⟩) := blk_cell H5.out.2.1 4
                have z4 : w5.frozen? ⟨w.heap.size, 4, none⟩ = false := blk_frozen H5.out.2.1 4
                have q4 : w5.cell? ⟨g, 4, none⟩ = some (.string r3) := blk_cell H5.out.2.2.2.1 4
                have q5 : w5.frozen? ⟨g, 4, none⟩ = false := blk_frozen H5.out.2.2.2.1 4
                have hg1 : (w.heap.size == g) = false := by have := H5.out.2.2.2.2; simp; omega
                have hg2 : ¬ w.heap.size = g := by have := H5.out.2.2.2.2; omega
                have hg3 : ¬ g = w.heap.size := by have := H5.out.2.2.2.2; omega
                have BB := blk_set5 H5.out.2.1 (.bool p) (.bool po) (.bool pn) (.string a3) (.string r3)
                have BL := Lib.hid (below_set5 H5.out.1 (Nat.le_refl _) (.bool p) (.bool po) (.bool pn) (.string a3) (.string r3))
                go_wp2_with fail
                generalize (((((w5.setCell ⟨w.heap.size, 0, none⟩ (.bool p)).setCell ⟨w.heap.size, 1, none⟩ (.bool po)).setCell ⟨w.heap.size, 2, none⟩ (.bool pn)).setCell ⟨w.heap.size, 3, none⟩ (.string a3)).setCell ⟨w.heap.size, 4, none⟩ (.string r3)) = WW at *
                have k0 := blk_cell BB 0
                have k1 := blk_cell BB 1
                have k2 := blk_cell BB 2
                have k3 := blk_cell BB 3
                have k4 := blk_cell BB 4
                simp [bodyPost, results, Tryz.results86, go_sem, *]
                refine ⟨?_, BL.out⟩
                rw [← HRR.out]
                rfl
          · cases h0 : (le == 0)
            · have hgp : (a3.toList == [103, 114, 111, 117, 112]) = false := neq_of (l' := [103, 114, 111, 117, 112]) hj (by decide)
              have hsb : (a3.toList == [115, 117, 98]) = false := neq_of (l' := [115, 117, 98]) hj (by decide)
              have hle : ¬ le = 0 := by simpa using h0
              have h1 : (le != 0) = true := by simpa using h0
              have hv : valueS a3 r3 true valid lv le = .error le := by simp [valueS, ha, hj, hle]
              rw [hv] at HRR
              clear hv CW CS hle
              go_wp2_with fail
              refine (CL.out _).mono ?_
              rintro e w5 ⟨rfl, hb⟩
              have H5 := Lib.hid (And.intro (H4.out.1.trans (hb.mono H4.out.1.size)) (And.intro (blk_below H4.out.2.1 hb (blk_lt H4.out.2.1)) (And.intro (blk_below H4.out.2.2.1 hb (blk_lt H4.out.2.2.1)) (And.intro (blk_below H4.out.2.2.2.1 hb (blk_lt H4.out.2.2.2.1)) H4.out.2.2.2.2))))
              clear hb
              have y0 : w5.cell? ⟨w.heap.size + 1, 0, none⟩ = some (.bool false) := blk_cell H5.out.2.2.1 0
              have x0 : w5.cell? ⟨w.heap.size, 0, none⟩ = some (.bool false) := blk_cell H5.out.2.1 0
              have z0 : w5.frozen? ⟨w.heap.size, 0, none⟩ = false := blk_frozen H5.out.2.1 0
              have q0 : w5.cell? ⟨g, 0, none⟩ = some (.bool p) := blk_cell H5.out.2.2.2.1 0
              have y1 : w5.cell? ⟨w.heap.size + 1, 1, none⟩ = some (.bool false) := blk_cell H5.out.2.2.1 1
              have x1 : w5.cell? ⟨w.heap.size, 1, none⟩ = some (.bool false) := blk_cell H5.out.2.1 1
              have z1 : w5.frozen? ⟨w.heap.size, 1, none⟩ = false := blk_frozen H5.out.2.1 1
              have q1 : w5.cell? ⟨g, 1, none⟩ = some (.bool po) := blk_cell H5.out.2.2.2.1 1
              have y2 : w5.cell? ⟨w.heap.size + 1, 2, none⟩ = some (.bool false) := blk_cell H5.out.2.2.1 2
              have x2 : w5.cell? ⟨w.heap.size, 2, none⟩ = some (.bool false) := blk_cell H5.out.2.1 2
              have z2 : w5.frozen? ⟨w.heap.size, 2, none⟩ = false := blk_frozen H5.out.2.1 2
              have q2 : w5.cell? ⟨g, 2, none⟩ = some (.bool pn) := blk_cell H5.out.2.2.2.1 2
              have y3 : w5.cell? ⟨w.heap.size + 1, 3, none⟩ = some (.string ⟨#[]⟩) := blk_cell H5.out.2.2.1 3
              have x3 : w5.cell? ⟨w.heap.size, 3, none⟩ = some (.string ⟨#[]⟩) := blk_cell H5.out.2.1 3
              have z3 : w5.frozen? ⟨w.heap.size, 3, none⟩ = false := blk_frozen H5.out.2.1 3
              have q3 : w5.cell? ⟨g, 3, none⟩ = some (.string a3) := blk_cell H5.out.2.2.2.1 3
              have y4 : w5.cell? ⟨w.heap.size + 1, 4, none⟩ = some (.string ⟨#[]⟩) := blk_cell H5.out.2.2.1 4
              have x4 : w5.cell? ⟨w.heap.size, 4, none⟩ = some (.string ⟨#[]⟩) := blk_cell H5.out.2.1 4
              have z4 : w5.frozen? ⟨w.heap.size, 4, none⟩ = false := blk_frozen H5.out.2.1 4
              have q4 : w5.cell? ⟨g, 4, none⟩ = some (.string r3) := blk_cell H5.out.2.2.2.1 4
              have q5 : w5.frozen? ⟨g, 4, none⟩ = false := blk_frozen H5.out.2.2.2.1 4
              have hg1 : (w.heap.size == g) = false := by have := H5.out.2.2.2.2; simp; omega
              have hg2 : ¬ w.heap.size = g := by have := H5.out.2.2.2.2; omega
              have hg3 : ¬ g = w.heap.size := by have := H5.out.2.2.2.2; omega
              have BB := blk_set5 H5.out.2.1 (.bool false) (.bool false) (.bool false) (.string ⟨#[]⟩) (.string ⟨#[]⟩)
              have BL := Lib.hid (below_set5 H5.out.1 (Nat.le_refl _) (.bool false) (.bool false) (.bool false) (.string ⟨#[]⟩) (.string ⟨#[]⟩))
              go_wp2_with fail
              generalize (((((w5.setCell ⟨w.heap.size, 0, none⟩ (.bool false)).setCell ⟨w.heap.size, 1, none⟩ (.bool false)).setCell ⟨w.heap.size, 2, none⟩ (.bool false)).setCell ⟨w.heap.size, 3, none⟩ (.string ⟨#[]⟩)).setCell ⟨w.heap.size, 4, none⟩ (.string ⟨#[]⟩)) = WW at *
              have k0 := blk_cell BB 0
              have k1 := blk_cell BB 1
              have k2 := blk_cell BB 2
              have k3 := blk_cell BB 3
              have k4 := blk_cell BB 4
              simp [bodyPost, results, Tryz.results86, go_sem, *]
              refine ⟨?_, BL.out⟩
              rw [← HRR.out]
              rfl
            · have hgp : (a3.toList == [103, 114, 111, 117, 112]) = false := neq_of (l' := [103, 114, 111, 117, 112]) hj (by decide)
              have hsb : (a3.toList == [115, 117, 98]) = false := neq_of (l' := [115, 117, 98]) hj (by decide)
              have hle : le = 0 := by simpa using h0
              have hv : valueS a3 r3 true valid lv le = .ok lv := by simp [valueS, ha, hj, hle]
              rw [hv] at HRR
              rw [hle] at CL
              clear hv CW CS hle h0
              go_wp2_with fail
              refine (CL.out _).mono ?_
              rintro e w5 ⟨rfl, hb⟩
              have H5 := Lib.hid (And.intro (H4.out.1.trans (hb.mono H4.out.1.size)) (And.intro (blk_below H4.out.2.1 hb (blk_lt H4.out.2.1)) (And.intro (blk_below H4.out.2.2.1 hb (blk_lt H4.out.2.2.1)) (And.intro (blk_below H4.out.2.2.2.1 hb (blk_lt H4.out.2.2.2.1)) H4.out.2.2.2.2))))
              clear hb
              have y0 : w5.cell? ⟨w.heap.size + 1, 0, none⟩ = some (.bool false) := blk_cell H5.out.2.2.1 0
              have x0 : w5.cell? ⟨w.heap.size, 0, none⟩ = some (.bool false) := blk_cell H5.out.2.1 0
              have z0 : w5.frozen? ⟨w.heap.size, 0, none⟩ = false := blk_frozen H5.out.2.1 0
              have q0 : w5.cell? ⟨g, 0, none⟩ = some (.bool p) := blk_cell H5.out.2.2.2.1 0
              have y1 : w5.cell? ⟨w.heap.size + 1, 1, none⟩ = some (.bool false) := blk_cell H5.out.2.2.1 1
              have x1 : w5.cell? ⟨w.heap.size, 1, none⟩ = some (.bool false) := blk_cell H5.out.2.1 1
              have z1 : w5.frozen? ⟨w.heap.size, 1, none⟩ = false := blk_frozen H5.out.2.1 1
              have q1 : w5.cell? ⟨g, 1, none⟩ = some (.bool po) := blk_cell H5.out.2.2.2.1 1
              have y2 : w5.cell? ⟨w.heap.size + 1, 2, none⟩ = some (.bool false) := blk_cell H5.out.2.2.1 2
              have x2 : w5.cell? ⟨w.heap.size, 2, none⟩ = some (.bool false) := blk_cell H5.out.2.1 2
              have z2 : w5.frozen? ⟨w.heap.size, 2, none⟩ = false := blk_frozen H5.out.2.1 2
              have q2 : w5.cell? ⟨g, 2, none⟩ = some (.bool pn) := blk_cell H5.out.2.2.2.1 2
              have y3 : w5.cell? ⟨w.heap.size + 1, 3, none⟩ = some (.string ⟨#[]⟩) := blk_cell H5.out.2.2.1 3
              have x3 : w5.cell? ⟨w.heap.size, 3, none⟩ = some (.string ⟨#[]⟩) := blk_cell H5.out.2.1 3
              have z3 : w5.frozen? ⟨w.heap.size, 3, none⟩ = false := blk_frozen H5.out.2.1 3
              have q3 : w5.cell? ⟨g, 3, none⟩ = some (.string a3) := blk_cell H5.out.2.2.2.1 3
              have y4 : w5.cell? ⟨w.heap.size + 1, 4, none⟩ = some (.string ⟨#[]⟩) := blk_cell H5.out.2.2.1 4
              have x4 : w5.cell? ⟨w.heap.size, 4, none⟩ = some (.string ⟨#[]⟩) := blk_cell H5.out.2.1 4
              have z4 : w5.frozen? ⟨w.heap.size, 4, none⟩ = false := blk_frozen H5.out.2.1 4
              have q4 : w5.cell? ⟨g, 4, none⟩ = some (.string r3) := blk_cell H5.out.2.2.2.1 4
              have q5 : w5.frozen? ⟨g, 4, none⟩ = false := blk_frozen H5.out.2.2.2.1 4
              have hg1 : (w.heap.size == g) = false := by have := H5.out.2.2.2.2; simp; omega
              have hg2 : ¬ w.heap.size = g := by have := H5.out.2.2.2.2; omega
              have hg3 : ¬ g = w.heap.size := by have := H5.out.2.2.2.2; omega
              have BB := blk_set5 (blk_set_other H5.out.2.1 (a := (⟨g, 4, none⟩ : Addr)) (.string lv) hg2) (.bool p) (.bool po) (.bool pn) (.string a3) (.string lv)
              have BL := Lib.hid (below_set5 (show Below w.heap.size w (w5.setCell ⟨g, 4, none⟩ (.string lv)) from H5.out.1.setCell (by have := H5.out.2.2.2.2; show w.heap.size ≤ g; omega) _) (Nat.le_refl _) (.bool p) (.bool po) (.bool pn) (.string a3) (.string lv))
              go_wp2_with fail
              generalize ((((((w5.setCell ⟨g, 4, none⟩ (.string lv)).setCell ⟨w.heap.size, 0, none⟩ (.bool p)).setCell ⟨w.heap.size, 1, none⟩ (.bool po)).setCell ⟨w.heap.size, 2, none⟩ (.bool pn)).setCell ⟨w.heap.size, 3, none⟩ (.string a3)).setCell ⟨w.heap.size, 4, none⟩ (.string lv)) = WW at *
              have k0 := blk_cell BB 0
              have k1 := blk_cell BB 1
              have k2 := blk_cell BB 2
              have k3 := blk_cell BB 3
              have k4 := blk_cell BB 4
              simp [bodyPost, results, Tryz.results86, go_sem, *]
              refine ⟨?_, BL.out⟩
              rw [← HRR.out]
              rfl
      · cases f3
        · have hv : valueS a3 r3 false valid lv le = .ok r3 := by simp [valueS, ha]
          rw [hv] at HRR
          clear hv CL CW CS
          have hj : (a3.toList == [106, 105, 100]) = false := neq_of (l' := [106, 105, 100]) ha (by decide)
          have hgp : (a3.toList == [103, 114, 111, 117, 112]) = false := neq_of (l' := [103, 114, 111, 117, 112]) ha (by decide)
          have hsb : (a3.toList == [115, 117, 98]) = false := neq_of (l' := [115, 117, 98]) ha (by decide)
          have y0 : w4.cell? ⟨w.heap.size + 1, 0, none⟩ = some (.bool false) := blk_cell H4.out.2.2.1 0
          have x0 : w4.cell? ⟨w.heap.size, 0, none⟩ = some (.bool false) := blk_cell H4.out.2.1 0
          have z0 : w4.frozen? ⟨w.heap.size, 0, none⟩ = false := blk_frozen H4.out.2.1 0
          have q0 : w4.cell? ⟨g, 0, none⟩ = some (.bool p) := blk_cell H4.out.2.2.2.1 0
          have y1 : w4.cell? ⟨w.heap.size + 1, 1, none⟩ = some (.bool false) := blk_cell H4.out.2.2.1 1
          have x1 : w4.cell? ⟨w.heap.size, 1, none⟩ = some (.bool false) := blk_cell H4.out.2.1 1
          have z1 : w4.frozen? ⟨w.heap.size, 1, none⟩ = false := blk_frozen H4.out.2.1 1
          have q1 : w4.cell? ⟨g, 1, none⟩ = some (.bool po) := blk_cell H4.out.2.2.2.1 1
          have y2 : w4.cell? ⟨w.heap.size + 1, 2, none⟩ = some (.bool false) := blk_cell H4.out.2.2.1 2
          have x2 : w4.cell? ⟨w.heap.size, 2, none⟩ = some (.bool false) := blk_cell H4.out.2.1 2
          have z2 : w4.frozen? ⟨w.heap.size, 2, none⟩ = false := blk_frozen H4.out.2.1 2
          have q2 : w4.cell? ⟨g, 2, none⟩ = some (.bool pn) := blk_cell H4.out.2.2.2.1 2
          have y3 : w4.cell? ⟨w.heap.size + 1, 3, none⟩ = some (.string ⟨#[]⟩) := blk_cell H4.out.2.2.1 3
          have x3 : w4.cell? ⟨w.heap.size, 3, none⟩ = some (.string ⟨#[]⟩) := blk_cell H4.out.2.1 3
          have z3 : w4.frozen? ⟨w.heap.size, 3, none⟩ = false := blk_frozen H4.out.2.1 3
          have q3 : w4.cell? ⟨g, 3, none⟩ = some (.string a3) := blk_cell H4.out.2.2.2.1 3
          have y4 : w4.cell? ⟨w.heap.size + 1, 4, none⟩ = some (.string ⟨#[]⟩) := blk_cell H4.out.2.2.1 4
          have x4 : w4.cell? ⟨w.heap.size, 4, none⟩ = some (.string ⟨#[]⟩) := blk_cell H4.out.2.1 4
          have z4 : w4.frozen? ⟨w.heap.size, 4, none⟩ = false := blk_frozen H4.out.2.1 4
          have q4 : w4.cell? ⟨g, 4, none⟩ = some (.string r3) := blk_cell H4.out.2.2.2.1 4
          have q5 : w4.frozen? ⟨g, 4, none⟩ = false := blk_frozen H4.out.2.2.2.1 4
          have hg1 : (w.heap.size == g) = false := by have := H4.out.2.2.2.2; simp; omega
          have hg2 : ¬ w.heap.size = g := by have := H4.out.2.2.2.2; omega
          have hg3 : ¬ g = w.heap.size := by have := H4.out.2.2.2.2; omega
          have BB := blk_set5 H4.out.2.1 (.bool p) (.bool po) (.bool pn) (.string a3) (.string r3)
          have BL := Lib.hid (below_set5 H4.out.1 (Nat.le_refl _) (.bool p) (.bool po) (.bool pn) (.string a3) (.string r3))
          go_wp2_with fail
          generalize (((((w4.setCell ⟨w.heap.size, 0, none⟩ (.bool p)).setCell ⟨w.heap.size, 1, none⟩ (.bool po)).setCell ⟨w.heap.size, 2, none⟩ (.bool pn)).setCell ⟨w.heap.size, 3, none⟩ (.string a3)).setCell ⟨w.heap.size, 4, none⟩ (.string r3)) = WW at *
          have k0 := blk_cell BB 0
          have k1 := blk_cell BB 1
          have k2 := blk_cell BB 2
          have k3 := blk_cell BB 3
          have k4 := blk_cell BB 4
          simp [bodyPost, results, Tryz.results86, go_sem, *]
          refine ⟨?_, BL.out⟩
          rw [← HRR.out]
          rfl
        · have hv : valueS a3 r3 true valid lv le = .error 2 := by simp [valueS, ha]
          rw [hv] at HRR
          clear hv CL CW CS
          have hj : (a3.toList == [106, 105, 100]) = false := neq_of (l' := [106, 105, 100]) ha (by decide)
          have hgp : (a3.toList == [103, 114, 111, 117, 112]) = false := neq_of (l' := [103, 114, 111, 117, 112]) ha (by decide)
          have hsb : (a3.toList == [115, 117, 98]) = false := neq_of (l' := [115, 117, 98]) ha (by decide)
          have y0 : w4.cell? ⟨w.heap.size + 1, 0, none⟩ = some (.bool false) := blk_cell H4.out.2.2.1 0
          have x0 : w4.cell? ⟨w.heap.size, 0, none⟩ = some (.bool false) := blk_cell H4.out.2.1 0
          have z0 : w4.frozen? ⟨w.heap.size, 0, none⟩ = false := blk_frozen H4.out.2.1 0
          have q0 : w4.cell? ⟨g, 0, none⟩ = some (.bool p) := blk_cell H4.out.2.2.2.1 0
          have y1 : w4.cell? ⟨w.heap.size + 1, 1, none⟩ = some (.bool false) := blk_cell H4.out.2.2.1 1
          have x1 : w4.cell? ⟨w.heap.size, 1, none⟩ = some (.bool false) := blk_cell H4.out.2.1 1
          have z1 : w4.frozen? ⟨w.heap.size, 1, none⟩ = false := blk_frozen H4.out.2.1 1
          have q1 : w4.cell? ⟨g, 1, none⟩ = some (.bool po) := blk_cell H4.out.2.2.2.1 1
          have y2 : w4.cell? ⟨w.heap.size + 1, 2, none⟩ = some (.bool false) := blk_cell H4.out.2.2.1 2
          have x2 : w4.cell? ⟨w.heap.size, 2, none⟩ = some (.bool false) := blk_cell H4.out.2.1 2
          have z2 : w4.frozen? ⟨w.heap.size, 2, none⟩ = false := blk_frozen H4.out.2.1 2
          have q2 : w4.cell? ⟨g, 2, none⟩ = some (.bool pn) := blk_cell H4.out.2.2.2.1 2
          have y3 : w4.cell? ⟨w.heap.size + 1, 3, none⟩ = some (.string ⟨#[]⟩) := blk_cell H4.out.2.2.1 3
          have x3 : w4.cell? ⟨w.heap.size, 3, none⟩ = some (.string ⟨#[]⟩) := blk_cell H4.out.2.1 3
          have z3 : w4.frozen? ⟨w.heap.size, 3, none⟩ = false := blk_frozen H4.out.2.1 3
          have q3 : w4.cell? ⟨g, 3, none⟩ = some (.string a3) := blk_cell H4.out.2.2.2.1 3
          have y4 : w4.cell? ⟨w.heap.size + 1, 4, none⟩ = some (.string ⟨#[]⟩) := blk_cell H4.out.2.2.1 4
          have x4 : w4.cell? ⟨w.heap.size, 4, none⟩ = some (.string ⟨#[]⟩) := blk_cell H4.out.2.1 4
          have z4 : w4.frozen? ⟨w.heap.size, 4, none⟩ = false := blk_frozen H4.out.2.1 4
          have q4 : w4.cell? ⟨g, 4, none⟩ = some (.string r3) := blk_cell H4.out.2.2.2.1 4
          have q5 : w4.frozen? ⟨g, 4, none⟩ = false := blk_frozen H4.out.2.2.2.1 4
          have hg1 : (w.heap.size == g) = false := by have := H4.out.2.2.2.2; simp; omega
          have hg2 : ¬ w.heap.size = g := by have := H4.out.2.2.2.2; omega
          have hg3 : ¬ g = w.heap.size := by have := H4.out.2.2.2.2; omega
          have BB := blk_set5 H4.out.2.1 (.bool false) (.bool false) (.bool false) (.string ⟨#[]⟩) (.string ⟨#[]⟩)
          have BL := Lib.hid (below_set5 H4.out.1 (Nat.le_refl _) (.bool false) (.bool false) (.bool false) (.string ⟨#[]⟩) (.string ⟨#[]⟩))
          go_wp2_with fail
          generalize (((((w4.setCell ⟨w.heap.size, 0, none⟩ (.bool false)).setCell ⟨w.heap.size, 1, none⟩ (.bool false)).setCell ⟨w.heap.size, 2, none⟩ (.bool false)).setCell ⟨w.heap.size, 3, none⟩ (.string ⟨#[]⟩)).setCell ⟨w.heap.size, 4, none⟩ (.string ⟨#[]⟩)) = WW at *
          have k0 := blk_cell BB 0
          have k1 := blk_cell BB 1
          have k2 := blk_cell BB 2
          have k3 := blk_cell BB 3
          have k4 := blk_cell BB 4
          simp [bodyPost, results, Tryz.results86, go_sem, *]
          refine ⟨?_, BL.out⟩
          rw [← HRR.out]
          rfl
      -- END
    · rw [parseS_bad hbad] at HRR
      clear hbad
      have y0 : wc.cell? ⟨w.heap.size + 1, 0, none⟩ = some (.bool false) := blk_cell H2.out.2.2 0
      have y1 : wc.cell? ⟨w.heap.size + 1, 1, none⟩ = some (.bool false) := blk_cell H2.out.2.2 1
      have y2 : wc.cell? ⟨w.heap.size + 1, 2, none⟩ = some (.bool false) := blk_cell H2.out.2.2 2
      have y3 : wc.cell? ⟨w.heap.size + 1, 3, none⟩ = some (.string ⟨#[]⟩) := blk_cell H2.out.2.2 3
      have y4 : wc.cell? ⟨w.heap.size + 1, 4, none⟩ = some (.string ⟨#[]⟩) := blk_cell H2.out.2.2 4
      have x0 : wc.cell? ⟨w.heap.size, 0, none⟩ = some (.bool false) := blk_cell H2.out.2.1 0
      have x1 : wc.cell? ⟨w.heap.size, 1, none⟩ = some (.bool false) := blk_cell H2.out.2.1 1
      have x2 : wc.cell? ⟨w.heap.size, 2, none⟩ = some (.bool false) := blk_cell H2.out.2.1 2
      have x3 : wc.cell? ⟨w.heap.size, 3, none⟩ = some (.string ⟨#[]⟩) := blk_cell H2.out.2.1 3
      have x4 : wc.cell? ⟨w.heap.size, 4, none⟩ = some (.string ⟨#[]⟩) := blk_cell H2.out.2.1 4
      have z0 : wc.frozen? ⟨w.heap.size, 0, none⟩ = false := blk_frozen H2.out.2.1 0
      have z1 : wc.frozen? ⟨w.heap.size, 1, none⟩ = false := blk_frozen H2.out.2.1 1
      have z2 : wc.frozen? ⟨w.heap.size, 2, none⟩ = false := blk_frozen H2.out.2.1 2
      have z3 : wc.frozen? ⟨w.heap.size, 3, none⟩ = false := blk_frozen H2.out.2.1 3
      have z4 : wc.frozen? ⟨w.heap.size, 4, none⟩ = false := blk_frozen H2.out.2.1 4
      have BB := blk_set5 H2.out.2.1 (.bool false) (.bool false) (.bool false) (.string ⟨#[]⟩) (.string ⟨#[]⟩)
      have BL := Lib.hid (below_set5 H2.out.1 (Nat.le_refl _) (.bool false) (.bool false) (.bool false) (.string ⟨#[]⟩) (.string ⟨#[]⟩))
      go_wp2_with fail
      generalize (((((wc.setCell ⟨w.heap.size, 0, none⟩ (.bool false)).setCell ⟨w.heap.size, 1, none⟩ (.bool false)).setCell ⟨w.heap.size, 2, none⟩ (.bool false)).setCell ⟨w.heap.size, 3, none⟩ (.string ⟨#[]⟩)).setCell ⟨w.heap.size, 4, none⟩ (.string ⟨#[]⟩)) = WW at *
      have k0 := blk_cell BB 0
      have k1 := blk_cell BB 1
      have k2 := blk_cell BB 2
      have k3 := blk_cell BB 3
      have k4 := blk_cell BB 4
      simp [bodyPost, results, Tryz.results86, go_sem, *]
      exact ⟨HRR.out, BL.out⟩

end Go.Proofs.YthbjcihdlhkboaaGreatDoor
