/- The reference's lists: does a rule fit, what is allowed. -/
import Derived.Test.YthbjcihdlhkboaaGreatDoorPx1
namespace Go.Proofs.YthbjcihdlhkboaaGreatDoor
set_option linter.unusedSimpArgs false
set_option linter.unusedVariables false
open Go.RowKit Go.Maps Go.Shelf Go.Lib

abbrev ruleC (r : Rule) : Obj := .cells #[.bool r.allow, .bool r.inn, .bool r.out, .string r.by_, .string r.value] 138
theorem any_false {ts : List ByteArray} {x : ByteArray} (h : ∀ j g, j < ts.length → ts[j]? = some g → (g.toList == x.toList) = false) : (ts.any fun g => g.toList == x.toList) = false := by
  rw [List.any_eq_false]
  intro g hg
  obtain ⟨j, hj, e⟩ := List.getElem_of_mem hg
  rw [h j g hj (by rw [List.getElem?_eq_getElem hj, e])]
  simp
theorem any_true {ts : List ByteArray} {x g : ByteArray} {k : Nat} (hk : ts[k]? = some g) (h : (g.toList == x.toList) = true) : (ts.any fun g => g.toList == x.toList) = true :=
  List.any_eq_true.2 ⟨g, List.mem_of_getElem? hk, h⟩

set_option maxRecDepth 100000 in
set_option maxHeartbeats 8000000 in
/-- The groups are looked through. -/
theorem rfits_tail (ra ri ro inn : Bool) (rb rv contact sub : ByteArray) (v : Value) (ts : List ByteArray) (w : World) (hs : Strs w v ts) (hw : ((inn && !ri) || (!inn && !ro)) = false)
    (h1 : (rb.toList == [97, 108, 108]) = false) (h2 : (rb.toList == [106, 105, 100]) = false) (h3 : (rb.toList == [115, 117, 98]) = false) :
    Calls Tryz.prog 105 #[(⟨ra, ri, ro, rb, rv⟩ : Rule).val, .bool inn, .string contact, v, .string sub] w fun e w' => e = .returned (.bool (ts.any fun g => g.toList == rv.toList)) ∧ Below w.heap.size w w' := by
  obtain ⟨A, c, rfl⟩ : ∃ A c, v = .slice A ts.length c := let ⟨⟨A, cap, h, _⟩, _⟩ := hs; ⟨A, cap, h⟩
  obtain ⟨q, hq⟩ : ∃ q : Bool, (ts.any fun g => g.toList == rv.toList) = q := ⟨_, rfl⟩
  rw [hq]
  have HQ := Lib.hid hq
  have HS := Lib.hid (hs.below ((Below.refl _ _).alloc (Nat.le_refl _) (ruleC ⟨ra, ri, ro, rb, rv⟩)))
  have hlen := hs.2
  have hb0 : (w.alloc (ruleC ⟨ra, ri, ro, rb, rv⟩)).heap[w.heap.size]? = some (ruleC ⟨ra, ri, ro, rb, rv⟩) := blk_new _ _
  have HB0 := Lib.hid hb0
  clear hq hs hb0
  have hway : (inn = true ∧ ri = true) ∨ (inn = false ∧ ro = true) := by cases inn <;> cases ri <;> cases ro <;> simp_all
  clear hw
  rcases hway with ⟨rfl, rfl⟩ | ⟨rfl, rfl⟩
  all_goals
    go_enter Tryz.func105, Tryz.ntmps105
    go_wp2_with fail
    go_loopg [11] ts.length (fun g s11 wx => ∃ k : Nat, k ≤ ts.length ∧ g = ts.length - k ∧ s11 = .int .i64 k ∧ Below (w.heap.size + 1) (w.alloc (ruleC ⟨ra, _, _, rb, rv⟩)) wx ∧ ∀ j g, j < k → ts[j]? = some g → (g.toList == rv.toList) = false)
    case atStart => exact ⟨0, Nat.zero_le _, rfl, rfl, Below.refl _ _, fun j g hj => by omega⟩
    case round =>
      obtain ⟨k, hk, hgk, rfl, hbx, hno⟩ := hrel
      have y4 : wr.cell? ⟨w.heap.size, 4, none⟩ = some (.string rv) := blk_cell (blk_below HB0.out hbx (by omega)) 4
      have zz : w.heap.size < wr.heap.size := by have := hbx.size; simp at this; omega
      have hbw : Below w.heap.size w wr := ((Below.refl _ _).alloc (Nat.le_refl _) _).trans (hbx.mono (by omega))
      have HX := Lib.hid (And.intro hbx hbw)
      have HK := Lib.hid (And.intro hk (And.intro hgk hno))
      clear hbx hbw hk hgk hno
      by_cases hlt : k < ts.length
      · have t3 : (k : Int) < (ts.length : Int) := by omega
        have t0 : (0 : Int) ≤ (k : Int) := by omega
        have hw : IntKind.i64.wrap ((k : Int) + 1) = (k : Int) + 1 := IntWalk.i64_in _ (by omega)
        obtain ⟨b1, o1, rfl, _, _, y1⟩ := (HS.out.below (by simpa using HX.out.1)).at hlt
        obtain ⟨g, hg⟩ : ∃ g, ts[k] = g := ⟨_, rfl⟩
        rw [hg] at y1
        have hgk : ts[k]? = some g := by rw [List.getElem?_eq_getElem hlt, hg]
        have HG := Lib.hid hgk
        clear hgk hg
        cases hx : (g.toList == rv.toList) with
        | true =>
          have hqt : q = true := by rw [← HQ.out]; exact any_true HG.out hx
          subst hqt
          go_wp2_with fail
          go_quiet (fail)
          go_wp2_with fail
          go_ret
          exact ⟨rfl, HX.out.2.trans ((below_drewNs _ _).mono HX.out.2.size)⟩
        | false =>
          have HXX := Lib.hid hx
          go_wp2_with fail
          go_quiet (fail)
          go_wp2_with fail
          go_roundg (ts.length - (k + 1))
          case measure => have := HK.out.2.1; omega
          case rel =>
            refine ⟨k + 1, by omega, rfl, by go_num, HX.out.1.trans ((below_drewNs _ _).mono (by have := HX.out.1.size; simpa using this)), fun j g' hj hg' => ?_⟩
            by_cases e : j = k
            · subst e
              rw [HG.out] at hg'
              cases hg'
              exact HXX.out
            · exact HK.out.2.2 j g' (by omega) hg'
      · have hqf : q = false := by
          rw [← HQ.out]
          exact any_false fun j g hj hg => HK.out.2.2 j g (by omega) hg
        subst hqf
        have t3 : ¬ (k : Int) < (ts.length : Int) := by omega
        go_wp2_with fail
        go_ret
        exact ⟨rfl, HX.out.2⟩

set_option maxRecDepth 100000 in
set_option maxHeartbeats 8000000 in
theorem rfits_any (r : Rule) (inn : Bool) (contact sub : ByteArray) (v : Value) (ts : List ByteArray) (w : World) (hs : Strs w v ts) (hval : r.value.size ≤ 4294967296) :
    Calls Tryz.prog 105 #[r.val, .bool inn, .string contact, v, .string sub] w fun e w' => e = .returned (.bool (fitsR r inn contact ts sub)) ∧ Below w.heap.size w w' := by
  obtain ⟨ra, ri, ro, rb, rv⟩ := r
  have h5 : ¬ 9223372036854775807 < rv.size + 4 := by simp only at hval; omega
  clear hval
  cases hw : ((inn && !ri) || (!inn && !ro)) with
  | true =>
    rw [show fitsR ⟨ra, ri, ro, rb, rv⟩ inn contact ts sub = false by unfold fitsR; rw [if_pos hw]]
    have hway : (inn = true ∧ ri = false) ∨ (inn = false ∧ ro = false) := by cases inn <;> cases ri <;> cases ro <;> simp_all
    clear hw hs
    rcases hway with ⟨rfl, rfl⟩ | ⟨rfl, rfl⟩
    all_goals
      as_aux_lemma =>
      go_enter Tryz.func105, Tryz.ntmps105
      go_wp2_with fail
      go_ret
      exact ⟨rfl, (Below.refl _ _).alloc (Nat.le_refl _) _⟩
  | false =>
    have he : fitsR ⟨ra, ri, ro, rb, rv⟩ inn contact ts sub = if rb.toList == [97, 108, 108] then true else if rb.toList == [106, 105, 100] then rv.toList == contact.toList else if rb.toList == [115, 117, 98] then (sub.toList == rv.toList) || (sub.toList == (rv ++ ⟨#[44, 97, 115, 107]⟩).toList) else ts.any (fun g => g.toList == rv.toList) := by
      unfold fitsR; rw [hw]; rfl
    rw [he]
    clear he
    cases h1 : (rb.toList == [97, 108, 108]) with
    | true =>
      have hway : (inn = true ∧ ri = true) ∨ (inn = false ∧ ro = true) := by cases inn <;> cases ri <;> cases ro <;> simp_all
      clear hw hs
      rcases hway with ⟨rfl, rfl⟩ | ⟨rfl, rfl⟩
      all_goals
        as_aux_lemma =>
        go_enter Tryz.func105, Tryz.ntmps105
        go_wp2_with fail
        go_ret
        exact ⟨rfl, (Below.refl _ _).alloc (Nat.le_refl _) _⟩
    | false =>
      cases h2 : (rb.toList == [106, 105, 100]) with
      | true =>
        have hway : (inn = true ∧ ri = true) ∨ (inn = false ∧ ro = true) := by cases inn <;> cases ri <;> cases ro <;> simp_all
        clear hw hs
        rcases hway with ⟨rfl, rfl⟩ | ⟨rfl, rfl⟩
        all_goals
          as_aux_lemma =>
          go_enter Tryz.func105, Tryz.ntmps105
          go_wp2_with fail
          go_ret
          exact ⟨rfl, (Below.refl _ _).alloc (Nat.le_refl _) _⟩
      | false =>
        cases h3 : (rb.toList == [115, 117, 98]) with
        | true =>
          have hway : (inn = true ∧ ri = true) ∨ (inn = false ∧ ro = true) := by cases inn <;> cases ri <;> cases ro <;> simp_all
          clear hw hs
          cases h4 : (sub.toList == rv.toList)
          all_goals
            rcases hway with ⟨rfl, rfl⟩ | ⟨rfl, rfl⟩
            all_goals
              as_aux_lemma =>
              go_enter Tryz.func105, Tryz.ntmps105
              go_wp2_with fail
              go_ret
              exact ⟨by simp, (Below.refl _ _).alloc (Nat.le_refl _) _⟩
        | false => exact rfits_tail ra ri ro inn rb rv contact sub v ts w hs hw h1 h2 h3

/-- The rules are looked through. -/
theorem firstFitR_none {rs : List Rule} {inn : Bool} {contact : ByteArray} {groups : List ByteArray} {sub : ByteArray} (h : ∀ j, j < rs.length → ∀ r, rs[j]? = some r → fitsR r inn contact groups sub = false) : firstFitR rs inn contact groups sub = true := by
  unfold firstFitR
  have : rs.find? (fun r => fitsR r inn contact groups sub) = none := by
    rw [List.find?_eq_none]
    intro r hr
    obtain ⟨j, hj, e⟩ := List.getElem_of_mem hr
    simp [h j hj r (by rw [List.getElem?_eq_getElem hj, e])]
  rw [this]
theorem firstFitR_some {rs : List Rule} {inn : Bool} {contact : ByteArray} {groups : List ByteArray} {sub : ByteArray} {k : Nat} {r : Rule} (hr : rs[k]? = some r) (h : ∀ j, j < k → ∀ r, rs[j]? = some r → fitsR r inn contact groups sub = false)
    (hf : fitsR r inn contact groups sub = true) : firstFitR rs inn contact groups sub = r.allow := by
  unfold firstFitR
  have : rs.find? (fun r => fitsR r inn contact groups sub) = some r := by
    rw [List.find?_eq_some_iff_getElem]
    obtain ⟨hk, e⟩ := List.getElem?_eq_some_iff.1 hr
    refine ⟨hf, k, hk, e, fun j hj => ?_⟩
    simp [h j hj _ (List.getElem?_eq_getElem (by omega))]
  rw [this]

-- PRINTED (gen_px4.py)
set_option maxRecDepth 100000 in
set_option maxHeartbeats 16000000 in
theorem rallows_any {w : World} {B qb : Nat} {S : RL} (h : RfAt w B qb S) (name : ByteArray) (inn : Bool) (contact : ByteArray) (v : Value) (groups : List ByteArray) (sub : ByteArray) (hg : Strs w v groups) (hn : S.rows.length ≤ 1000000)
    (hok : ∀ r ∈ S.rows, r.rules.length ≤ 1000000 ∧ ∀ q ∈ r.rules, q.value.size ≤ 4294967296) :
    Calls Tryz.prog 49 #[.pointer (some ⟨qb, 0, none⟩), .string name, .bool inn, .string contact, v, .string sub] w fun e w' => e = .returned (.bool (S.allows name inn contact groups sub)) ∧ Below w.heap.size w w' := by
  have C1 := at_any h name hn
  have C2 := fun (W : World) (hb : Below w.heap.size w W) => at_any (h.below hb) S.chosen hn
  obtain ⟨vn, vt, vr, rows, hR⟩ := h
  obtain ⟨A3, c3, rfl⟩ := hR.rules.shape
  obtain ⟨GA, gcap, rfl⟩ : ∃ A cap, v = .slice A groups.length cap := let ⟨⟨A, cap, h, _⟩, _⟩ := hg; ⟨A, cap, h⟩
  have HG := Lib.hid hg
  have HC2 := Lib.hid C2
  generalize hv : Value.slice GA groups.length gcap = v at *
  obtain ⟨RES, hE⟩ : ∃ R, S.allows name inn contact groups sub = R := ⟨_, rfl⟩
  rw [hE]
  clear hg C2
  cases hi : S.is name with
  | true =>
    obtain ⟨p, hp⟩ : ∃ p, S.pos name = p := ⟨_, rfl⟩
    have hE2 : RES = firstFitR (S.rowsAt name) inn contact groups sub := by rw [← hE]; unfold RL.allows; rw [if_pos hi]
    obtain ⟨r0, g1, g2, g3⟩ := Srt.isAt_split (show Srt.isAt Row.name S.rows name = true from hi)
    have hpl : p < rows.length := by
      have := (List.getElem?_eq_some_iff.1 g1).1
      have e : Srt.pos Row.name S.rows name = p := hp
      rw [e] at this
      have := hR.len
      omega
    obtain ⟨r, hr⟩ : ∃ r, rows[p]? = some r := ⟨_, List.getElem?_eq_getElem hpl⟩
    have hrow : S.rowsAt name = r.row.rules := by
      unfold RL.rowsAt
      rw [hi, show S.pos name = p from hp, hR.get hr]
      rfl
    obtain ⟨AR, cR, hrv⟩ := (hR.each r (List.mem_of_getElem? hr)).2.shape
    have hru := (hR.each r (List.mem_of_getElem? hr)).2
    rw [hrv] at hru
    have HRW := Lib.hid (And.intro hr (And.intro hrv (And.intro hru (And.intro (hok r.row (by rw [← hR.eq]; exact List.mem_map.2 ⟨r, List.mem_of_getElem? hr, rfl⟩)).1 (hok r.row (by rw [← hR.eq]; exact List.mem_map.2 ⟨r, List.mem_of_getElem? hr, rfl⟩)).2))))
    rw [hrow] at hE2
    rw [hi, hp] at C1
    have HE := Lib.hid hE2
    have HR := Lib.hid hR
    have HC1 := Lib.hid C1
    clear hE hE2 hrow hR C1 hi hp g3 g1 g2 hok hn HC2 hru hrv hr hpl r0
    subst hv
    go_enter Tryz.func49, Tryz.ntmps49
    go_wp2_with fail
    refine HC1.out.mono ?_
    rintro e w1 ⟨rfl, hb1⟩
    have HB := Lib.hid hb1
    clear hb1 HC1
    have z1 := HB.out.size
    have hR1 := HR.out.below HB.out
    obtain ⟨bR, oR, rfl, yR⟩ : ∃ b off, A3 = some ⟨b, off, none⟩ ∧ w1.cell? ⟨b, off + p, none⟩ = some (.slice AR r.row.rules.length cR) := by
      obtain ⟨b, off, e, _, _, y, _⟩ := hR1.rules.one (j := p) (v := r.rv) (by simp [rvL, HRW.out.1])
      exact ⟨b, off, e, by rw [y, HRW.out.2.1]⟩
    obtain ⟨_, _, _, _, _, c5, _⟩ := cells6r hR1.cells
    have hpl : p < rows.length := (List.getElem?_eq_some_iff.1 HRW.out.1).1
    have t5 : (p : Int) < (rows.length : Int) := by omega
    have t6 : (0 : Int) ≤ (p : Int) := by omega
    have zq : qb < w1.heap.size := blk_lt hR1.cells
    have zb : bR < w1.heap.size := World.block_lt_of_cell? w1 _ yR
    have HR1 := Lib.hid hR1
    clear hR1 hpl
    go_wp2_with fail
    go_loopg [15] r.row.rules.length (fun g s15 wx => ∃ k : Nat, k ≤ r.row.rules.length ∧ g = r.row.rules.length - k ∧ s15 = .int .i64 k ∧ Below w1.heap.size w1 wx ∧ ∀ j q, j < k → r.row.rules[j]? = some q → fitsR q inn contact groups sub = false)
    case atStart => exact ⟨0, Nat.zero_le _, rfl, rfl, Below.refl _ _, fun j g hj => by omega⟩
    case round =>
      obtain ⟨k, hk, hgk, rfl, hbx, hno⟩ := hrel
      have d5 : wr.cell? ⟨qb, 5, none⟩ = some (.slice (some ⟨bR, oR, none⟩) rows.length c3) := (hbx.cell zq).trans c5
      have dR : wr.cell? ⟨bR, oR + p, none⟩ = some (.slice AR r.row.rules.length cR) := (hbx.cell zb).trans yR
      have HX := Lib.hid hbx
      have HK := Lib.hid (And.intro hk (And.intro hgk hno))
      have t0 : (0 : Int) ≤ (k : Int) := by omega
      have hru := (HRW.out.2.2.1).below (HB.out.trans (hbx.mono HB.out.size)) (fun j hj => ((HRW.out.2.2.1).lt j hj).2)
      clear hbx hk hgk hno
      by_cases hlt : k < r.row.rules.length
      · have t3 : (k : Int) < (r.row.rules.length : Int) := by omega
        have hw : IntKind.i64.wrap ((k : Int) + 1) = (k : Int) + 1 := IntWalk.i64_in _ (by have := HRW.out.2.2.2.1; omega)
        obtain ⟨q, hq⟩ : ∃ q, r.row.rules[k]? = some q := ⟨_, List.getElem?_eq_getElem hlt⟩
        obtain ⟨bA, oA, rfl⟩ : ∃ b off, AR = some ⟨b, off, none⟩ := by
          obtain ⟨g', off', cap', hv, _⟩ := hru.form (by omega)
          cases hv; exact ⟨_, _, rfl⟩
        obtain ⟨e0, e1, e2, e3, e4⟩ := rule_cells5 hru hq
        have C := rfits_any q inn contact sub _ groups wr (HG.out.below (HB.out.trans (HX.out.mono HB.out.size))) (HRW.out.2.2.2.2 q (List.mem_of_getElem? hq))
        obtain ⟨qa, qi, qo, qby, qv⟩ := q
        simp only [Rule.val] at C e0 e1 e2 e3 e4
        have HQ := Lib.hid hq
        clear hq hru
        cases hf : fitsR ⟨qa, qi, qo, qby, qv⟩ inn contact groups sub with
        | true =>
          rw [hf] at C
          have HF := Lib.hid hf
          have HC := Lib.hid C
          clear hf C
          go_wp2_with fail
          refine HC.out.mono ?_
          rintro e w2 ⟨rfl, hb2⟩
          have zq2 : qb < wr.heap.size := Nat.lt_of_lt_of_le zq HX.out.size
          have zb2 : bR < wr.heap.size := Nat.lt_of_lt_of_le zb HX.out.size
          have zA : bA < wr.heap.size := World.block_lt_of_cell? wr _ e0
          have f5 : w2.cell? ⟨qb, 5, none⟩ = some (.slice (some ⟨bR, oR, none⟩) rows.length c3) := (hb2.cell zq2).trans d5
          have fR : w2.cell? ⟨bR, oR + p, none⟩ = some (.slice (some ⟨bA, oA, none⟩) r.row.rules.length cR) := (hb2.cell zb2).trans dR
          have fA : w2.cell? ⟨bA, oA + k * 5, none⟩ = some (.bool qa) := (hb2.cell zA).trans e0
          have HB2 := Lib.hid hb2
          clear hb2
          go_wp2_with fail
          go_ret
          refine ⟨?_, HB.out.trans ((HX.out.trans (HB2.out.mono HX.out.size)).mono HB.out.size)⟩
          rw [HE.out, firstFitR_some HQ.out (fun j hj q hq => HK.out.2.2 j q hj hq) HF.out]
          try rfl
        | false =>
          rw [hf] at C
          have HF := Lib.hid hf
          have HC := Lib.hid C
          clear hf C
          go_wp2_with fail
          refine HC.out.mono ?_
          rintro e w2 ⟨rfl, hb2⟩
          have HB2 := Lib.hid hb2
          clear hb2
          go_wp2_with fail
          go_roundg (r.row.rules.length - (k + 1))
          case measure => have := HK.out.2.1; omega
          case rel =>
            refine ⟨k + 1, by omega, rfl, by go_num, HX.out.trans (HB2.out.mono HX.out.size), fun j q' hj hq' => ?_⟩
            by_cases e : j = k
            · subst e
              rw [HQ.out] at hq'
              cases hq'
              exact HF.out
            · exact HK.out.2.2 j q' (by omega) hq'
      · have t3 : ¬ (k : Int) < (r.row.rules.length : Int) := by omega
        clear hru
        go_wp2_with fail
        go_ret
        refine ⟨?_, HB.out.trans (HX.out.mono HB.out.size)⟩
        rw [HE.out, firstFitR_none (fun j hj q hq => HK.out.2.2 j q (by omega) hq)]
        try rfl
  | false =>
    cases hi2 : S.is S.chosen with
    | true =>
      obtain ⟨p, hp⟩ : ∃ p, S.pos S.chosen = p := ⟨_, rfl⟩
      have hE2 : RES = firstFitR (S.rowsAt S.chosen) inn contact groups sub := by rw [← hE]; unfold RL.allows; rw [hi, hi2]; rfl
      obtain ⟨r0, g1, g2, g3⟩ := Srt.isAt_split (show Srt.isAt Row.name S.rows S.chosen = true from hi2)
      have hpl : p < rows.length := by
        have := (List.getElem?_eq_some_iff.1 g1).1
        have e : Srt.pos Row.name S.rows S.chosen = p := hp
        rw [e] at this
        have := hR.len
        omega
      obtain ⟨r, hr⟩ : ∃ r, rows[p]? = some r := ⟨_, List.getElem?_eq_getElem hpl⟩
      have hrow : S.rowsAt S.chosen = r.row.rules := by
        unfold RL.rowsAt
        rw [hi2, show S.pos S.chosen = p from hp, hR.get hr]
        rfl
      obtain ⟨AR, cR, hrv⟩ := (hR.each r (List.mem_of_getElem? hr)).2.shape
      have hru := (hR.each r (List.mem_of_getElem? hr)).2
      rw [hrv] at hru
      have HRW := Lib.hid (And.intro hr (And.intro hrv (And.intro hru (And.intro (hok r.row (by rw [← hR.eq]; exact List.mem_map.2 ⟨r, List.mem_of_getElem? hr, rfl⟩)).1 (hok r.row (by rw [← hR.eq]; exact List.mem_map.2 ⟨r, List.mem_of_getElem? hr, rfl⟩)).2))))
      rw [hrow] at hE2
      rw [hi] at C1
      have HP := Lib.hid (And.intro hi2 hp)
      have HE := Lib.hid hE2
      have HR := Lib.hid hR
      have HC1 := Lib.hid C1
      clear hE hE2 hrow hR C1 hi hi2 hp g3 g1 g2 hok hn hru hrv hr hpl r0
      subst hv
      go_enter Tryz.func49, Tryz.ntmps49
      go_wp2_with fail
      refine HC1.out.mono ?_
      rintro e w0 ⟨rfl, hb0⟩
      have HB0 := Lib.hid hb0
      have y2 : w0.cell? ⟨qb, 2, none⟩ = some (.string S.chosen) := blk_cell (HR.out.below hb0).cells 2
      have C := HC2.out w0 hb0
      rw [HP.out.1, HP.out.2] at C
      have HC := Lib.hid C
      clear hb0 HC1 HC2 C
      go_wp2_with fail
      refine HC.out.mono ?_
      rintro e w1 ⟨rfl, hb1⟩
      have HB := Lib.hid (HB0.out.trans (hb1.mono HB0.out.size))
      clear hb1 HC y2 HB0
      have z1 := HB.out.size
      have hR1 := HR.out.below HB.out
      obtain ⟨bR, oR, rfl, yR⟩ : ∃ b off, A3 = some ⟨b, off, none⟩ ∧ w1.cell? ⟨b, off + p, none⟩ = some (.slice AR r.row.rules.length cR) := by
        obtain ⟨b, off, e, _, _, y, _⟩ := hR1.rules.one (j := p) (v := r.rv) (by simp [rvL, HRW.out.1])
        exact ⟨b, off, e, by rw [y, HRW.out.2.1]⟩
      obtain ⟨_, _, _, _, _, c5, _⟩ := cells6r hR1.cells
      have hpl : p < rows.length := (List.getElem?_eq_some_iff.1 HRW.out.1).1
      have t5 : (p : Int) < (rows.length : Int) := by omega
      have t6 : (0 : Int) ≤ (p : Int) := by omega
      have zq : qb < w1.heap.size := blk_lt hR1.cells
      have zb : bR < w1.heap.size := World.block_lt_of_cell? w1 _ yR
      have HR1 := Lib.hid hR1
      clear hR1 hpl
      go_wp2_with fail
      go_loopg [15] r.row.rules.length (fun g s15 wx => ∃ k : Nat, k ≤ r.row.rules.length ∧ g = r.row.rules.length - k ∧ s15 = .int .i64 k ∧ Below w1.heap.size w1 wx ∧ ∀ j q, j < k → r.row.rules[j]? = some q → fitsR q inn contact groups sub = false)
      case atStart => exact ⟨0, Nat.zero_le _, rfl, rfl, Below.refl _ _, fun j g hj => by omega⟩
      case round =>
        obtain ⟨k, hk, hgk, rfl, hbx, hno⟩ := hrel
        have d5 : wr.cell? ⟨qb, 5, none⟩ = some (.slice (some ⟨bR, oR, none⟩) rows.length c3) := (hbx.cell zq).trans c5
        have dR : wr.cell? ⟨bR, oR + p, none⟩ = some (.slice AR r.row.rules.length cR) := (hbx.cell zb).trans yR
        have HX := Lib.hid hbx
        have HK := Lib.hid (And.intro hk (And.intro hgk hno))
        have t0 : (0 : Int) ≤ (k : Int) := by omega
        have hru := (HRW.out.2.2.1).below (HB.out.trans (hbx.mono HB.out.size)) (fun j hj => ((HRW.out.2.2.1).lt j hj).2)
        clear hbx hk hgk hno
        by_cases hlt : k < r.row.rules.length
        · have t3 : (k : Int) < (r.row.rules.length : Int) := by omega
          have hw : IntKind.i64.wrap ((k : Int) + 1) = (k : Int) + 1 := IntWalk.i64_in _ (by have := HRW.out.2.2.2.1; omega)
          obtain ⟨q, hq⟩ : ∃ q, r.row.rules[k]? = some q := ⟨_, List.getElem?_eq_getElem hlt⟩
          obtain ⟨bA, oA, rfl⟩ : ∃ b off, AR = some ⟨b, off, none⟩ := by
            obtain ⟨g', off', cap', hv, _⟩ := hru.form (by omega)
            cases hv; exact ⟨_, _, rfl⟩
          obtain ⟨e0, e1, e2, e3, e4⟩ := rule_cells5 hru hq
          have C := rfits_any q inn contact sub _ groups wr (HG.out.below (HB.out.trans (HX.out.mono HB.out.size))) (HRW.out.2.2.2.2 q (List.mem_of_getElem? hq))
          obtain ⟨qa, qi, qo, qby, qv⟩ := q
          simp only [Rule.val] at C e0 e1 e2 e3 e4
          have HQ := Lib.hid hq
          clear hq hru
          cases hf : fitsR ⟨qa, qi, qo, qby, qv⟩ inn contact groups sub with
          | true =>
            rw [hf] at C
            have HF := Lib.hid hf
            have HC := Lib.hid C
            clear hf C
            go_wp2_with fail
            refine HC.out.mono ?_
            rintro e w2 ⟨rfl, hb2⟩
            have zq2 : qb < wr.heap.size := Nat.lt_of_lt_of_le zq HX.out.size
            have zb2 : bR < wr.heap.size := Nat.lt_of_lt_of_le zb HX.out.size
            have zA : bA < wr.heap.size := World.block_lt_of_cell? wr _ e0
            have f5 : w2.cell? ⟨qb, 5, none⟩ = some (.slice (some ⟨bR, oR, none⟩) rows.length c3) := (hb2.cell zq2).trans d5
            have fR : w2.cell? ⟨bR, oR + p, none⟩ = some (.slice (some ⟨bA, oA, none⟩) r.row.rules.length cR) := (hb2.cell zb2).trans dR
            have fA : w2.cell? ⟨bA, oA + k * 5, none⟩ = some (.bool qa) := (hb2.cell zA).trans e0
            have HB2 := Lib.hid hb2
            clear hb2
            go_wp2_with fail
            go_ret
            refine ⟨?_, HB.out.trans ((HX.out.trans (HB2.out.mono HX.out.size)).mono HB.out.size)⟩
            rw [HE.out, firstFitR_some HQ.out (fun j hj q hq => HK.out.2.2 j q hj hq) HF.out]
            try rfl
          | false =>
            rw [hf] at C
            have HF := Lib.hid hf
            have HC := Lib.hid C
            clear hf C
            go_wp2_with fail
            refine HC.out.mono ?_
            rintro e w2 ⟨rfl, hb2⟩
            have HB2 := Lib.hid hb2
            clear hb2
            go_wp2_with fail
            go_roundg (r.row.rules.length - (k + 1))
            case measure => have := HK.out.2.1; omega
            case rel =>
              refine ⟨k + 1, by omega, rfl, by go_num, HX.out.trans (HB2.out.mono HX.out.size), fun j q' hj hq' => ?_⟩
              by_cases e : j = k
              · subst e
                rw [HQ.out] at hq'
                cases hq'
                exact HF.out
              · exact HK.out.2.2 j q' (by omega) hq'
        · have t3 : ¬ (k : Int) < (r.row.rules.length : Int) := by omega
          clear hru
          go_wp2_with fail
          go_ret
          refine ⟨?_, HB.out.trans (HX.out.mono HB.out.size)⟩
          rw [HE.out, firstFitR_none (fun j hj q hq => HK.out.2.2 j q (by omega) hq)]
          try rfl
    | false =>
      have hE2 : RES = true := by rw [← hE]; unfold RL.allows; rw [hi, hi2]; rfl
      rw [hi] at C1
      subst hE2
      have HP := Lib.hid hi2
      have HR := Lib.hid hR
      have HC1 := Lib.hid C1
      clear hE hR C1 hi hi2 hok hn
      subst hv
      go_enter Tryz.func49, Tryz.ntmps49
      go_wp2_with fail
      refine HC1.out.mono ?_
      rintro e w0 ⟨rfl, hb0⟩
      have HB0 := Lib.hid hb0
      have y2 : w0.cell? ⟨qb, 2, none⟩ = some (.string S.chosen) := blk_cell (HR.out.below hb0).cells 2
      have C := HC2.out w0 hb0
      rw [HP.out] at C
      have HC := Lib.hid C
      clear hb0 HC1 HC2 C
      go_wp2_with fail
      refine HC.out.mono ?_
      rintro e w1 ⟨rfl, hb1⟩
      have HB := Lib.hid (HB0.out.trans (hb1.mono HB0.out.size))
      clear hb1 HC y2 HB0
      go_wp2_with fail
      go_ret
      exact ⟨rfl, HB.out⟩

end Go.Proofs.YthbjcihdlhkboaaGreatDoor
