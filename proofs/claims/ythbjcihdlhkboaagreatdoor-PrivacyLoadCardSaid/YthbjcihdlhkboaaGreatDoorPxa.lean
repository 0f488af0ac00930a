/- PrivacyExact's walk: for all bounds and all calls it answers true. -/
import Derived.Test.YthbjcihdlhkboaaGreatDoorPx9
import Derived.Deep.Light
namespace Go.Proofs.YthbjcihdlhkboaaGreatDoor
set_option linter.unusedSimpArgs false
set_option linter.unusedVariables false
open Go.RowKit Go.Maps Go.Shelf Go.Lib

/-- The calls, as they lie in memory. -/
structure OpvAt (w : World) (A : Option Addr) (L : Nat) (E : Nat → Opv) : Prop where
  at_ : 0 < L → ∃ b off, A = some ⟨b, off, none⟩ ∧ b < w.heap.size ∧ ∀ i, i < L → (∀ j, j < 7 → w.cell? ⟨b, off + i * 7 + j, none⟩ = (E i).cells[j]?) ∧ Strs w (E i).tv (E i).texts ∧ Strs w (E i).gv (E i).groups

theorem RfW.lower {w : World} {B B' qb : Nat} {S : RL} {vn vt vr : Value} {rows : List RowV} (h : RfW w B qb S vn vt vr rows) (hB : B' ≤ B) : RfW w B' qb S vn vt vr rows where
  eq := h.eq
  cells := h.cells
  names := h.names.lower hB
  texts := h.texts.lower hB
  rules := h.rules.lower hB
  each := fun r hr => ⟨Seq.lower (h.each r hr).1 hB, Seq.lower (h.each r hr).2 hB⟩
  lo := Nat.le_trans hB h.lo
theorem RfAt.lower {w : World} {B B' qb : Nat} {S : RL} (h : RfAt w B qb S) (hB : B' ≤ B) : RfAt w B' qb S := by
  obtain ⟨vn, vt, vr, rows, h⟩ := h
  exact ⟨vn, vt, vr, rows, h.lower hB⟩

/-- Both told, and compared. -/
theorem told_same {L : LS} {S : RL} (h : Twin L S) : L.told.map (·.1) = S.rows.map (·.name) ∧ L.told.map (·.2) = S.rows.map (·.texts) := by
  rw [h.told, List.map_map, List.map_map]
  exact ⟨rfl, rfl⟩
section
variable {w wx : World} {lb mb qb k : Nat} {L : LS} {S : RL}
theorem shelf_law (h : PEx w wx lb mb qb L S k) (hk : k ≤ 1000) : Calls Tryz.prog 15 #[.pointer (some ⟨lb, 0, none⟩)] wx fun e w' => ∃ vn vt, e = .returned (.agg #[.int .i64 L.most, .int .i64 L.rules, .string L.chosen, vn, vt]) ∧ TxtAt w' wx.heap.size vn (S.rows.map (·.name)) ∧ TabAt w' wx.heap.size vt (S.rows.map (·.texts)) ∧ Below wx.heap.size wx w' := by
  obtain ⟨n, D, hnk, r⟩ := h.prog
  have := shelf17_any r (h.twin.rightL h.rows) (by have := h.twin.length; have := h.len; omega) (h.twin.names h.rows)
  rwa [(told_same h.twin).1, (told_same h.twin).2] at this
theorem rshelf_law (h : PEx w wx lb mb qb L S k) (hk : k ≤ 1000) : Calls Tryz.prog 16 #[.pointer (some ⟨qb, 0, none⟩)] wx fun e w' => ∃ vn vt, e = .returned (.agg #[.int .i64 L.most, .int .i64 L.rules, .string L.chosen, vn, vt]) ∧ TxtAt w' wx.heap.size vn (S.rows.map (·.name)) ∧ TabAt w' wx.heap.size vt (S.rows.map (·.texts)) ∧ Below wx.heap.size wx w' := by
  have := rshelf17_any h.ref (by have := h.len; omega) (fun r hr => by have := (h.rows r hr).2.1; omega)
  rwa [← h.twin.most, ← h.twin.rules, ← h.twin.chosen] at this
end

set_option maxRecDepth 100000 in
set_option maxHeartbeats 16000000 in
theorem privexact_any (w : World) (hT : Tabs w) (lists rules : Int) (A : Option Addr) (L cap : Nat) (E : Nat → Opv) (hops : OpvAt w A L E) (hL : L ≤ 9223372036854775807) :
    Calls Tryz.prog 3 #[.int .i64 lists, .int .i64 rules, .slice A L cap] w fun e w' => e = .returned (.bool true) ∧ Below w.heap.size w w' := by
  by_cases hbad : badB lists rules
  · have C1 := Lib.hid (new_bad lists rules hbad w)
    have C2 := Lib.hid (fun W => rfnew_bad lists rules hbad W)
    have HT := Lib.hid hT
    clear hbad hops hT
    go_enter Tryz.func3, Tryz.ntmps3
    go_wp2_with fail
    refine C1.out.mono ?_
    rintro e w1 ⟨rfl, hb1⟩
    have HB1 := Lib.hid hb1
    clear hb1
    go_wp2_with fail
    refine (C2.out w1).mono ?_
    rintro e w2 ⟨rfl, hb2⟩
    have HB2 := Lib.hid (HB1.out.trans (hb2.mono HB1.out.size))
    clear hb2
    go_wp2_with fail
    refine (wakes17_any _ (HT.out.later HB2.out)).mono ?_
    rintro e w3 ⟨rfl, hb3⟩
    have HB3 := Lib.hid (HB2.out.trans (hb3.mono HB2.out.size))
    clear hb3
    go_wp2_with fail
    go_ret
    exact ⟨rfl, HB3.out⟩
  · have hbd : 0 ≤ lists ∧ lists ≤ 1000 ∧ 0 ≤ rules ∧ rules ≤ 1000 := by unfold badB at hbad; omega
    have C1 := Lib.hid (new_any lists rules hbd.1 hbd.2.1 hbd.2.2.1 hbd.2.2.2 w)
    have C2 := Lib.hid (fun W => rfnew_any lists rules hbd.1 hbd.2.1 hbd.2.2.1 hbd.2.2.2 W)
    have HT := Lib.hid hT
    have HO := Lib.hid hops
    clear hbad hops hT hbd
    go_enter Tryz.func3, Tryz.ntmps3
    go_wp2_with fail
    refine C1.out.mono ?_
    rintro e w1 ⟨rfl, hb1, hl1⟩
    have H1 := Lib.hid (And.intro hb1 hl1)
    clear hb1 hl1
    go_wp2_with fail
    refine (C2.out w1).mono ?_
    rintro e w2 ⟨rfl, hb2, hr2⟩
    have hm : PEx w w2 (w.heap.size + 1) w.heap.size w1.heap.size ⟨lists, rules, ⟨#[]⟩, []⟩ ⟨lists, rules, ⟨#[]⟩, []⟩ 0 :=
      ⟨H1.out.1.trans (hb2.mono H1.out.1.size), ⟨0, _, Nat.le_refl _, H1.out.2.below hb2⟩, hr2.lower H1.out.1.size, Twin.new _ _, fun r hr => (by cases hr), Nat.le_refl _⟩
    have HM := Lib.hid hm
    clear hm hb2 hr2 H1
    obtain ⟨qb, hqb⟩ : ∃ qb, w1.heap.size = qb := ⟨_, rfl⟩
    obtain ⟨lb, hlb⟩ : ∃ lb, w.heap.size + 1 = lb := ⟨_, rfl⟩
    obtain ⟨mb, hmb⟩ : ∃ mb, w.heap.size = mb := ⟨_, rfl⟩
    have HM : Hid (PEx w w2 lb mb qb ⟨lists, rules, ⟨#[]⟩, []⟩ ⟨lists, rules, ⟨#[]⟩, []⟩ 0) := Lib.hid (by rw [← hlb, ← hmb, ← hqb]; exact HM.out)
    rw [hqb, hlb]
    clear hqb hlb hmb C1 C2
    go_wp2_with fail
    refine (wakes17_any _ (HT.out.later HM.out.below)).mono ?_
    rintro e w3 ⟨rfl, hb3⟩
    have HM3 := Lib.hid (HM.out.call hb3)
    clear hb3 HM
    go_wp2_with fail
    go_loopg [11] (min L 120) (fun g s11 wx => ∃ (k : Nat) (X : LS) (Y : RL), k ≤ min L 120 ∧ g = min L 120 - k ∧ s11 = .int .i64 k ∧ PEx w wx lb mb qb X Y k)
    case atStart => exact ⟨0, _, _, Nat.zero_le _, rfl, rfl, HM3.out⟩
    case round =>
      clear HM3
      obtain ⟨k, X, Y, hk, hgk, rfl, hm⟩ := hrel
      have HM := Lib.hid hm
      have HK := Lib.hid (And.intro hk hgk)
      clear hm hgk
      have hw : IntKind.i64.wrap ((k : Int) + 1) = (k : Int) + 1 := IntWalk.i64_in _ (by omega)
      have t0 : (0 : Int) ≤ (k : Int) := by omega
      by_cases hlt : k < L
      · have t1 : decide ((k : Int) < (L : Int)) = true := by simpa using hlt
        have t1b : (k : Int) < (L : Int) := by omega
        by_cases hl2 : k < 120
        · have t2 : decide ((k : Int) < 120) = true := by simp; omega
          obtain ⟨ab, ao, rfl, hab, hops⟩ := HO.out.at_ (by omega)
          obtain ⟨hcl, hst, hsg⟩ := hops k hlt
          obtain ⟨o, ho⟩ : ∃ o, E k = o := ⟨_, rfl⟩
          rw [ho] at hcl hst hsg
          have hb := HM.out.below
          have c : ∀ j, j < 7 → wr.cell? ⟨ab, ao + k * 7 + j, none⟩ = o.cells[j]? := fun j hj => (hb.cell hab).trans (hcl j hj)
          have C := plays_any HM.out (HT.out.later hb) (by omega) o hst hsg
          have HC := Lib.hid C
          obtain ⟨act, name, tv, texts, inn, contact, gv, groups, sub⟩ := o
          have c0 : wr.cell? ⟨ab, ao + k * 7, none⟩ = some (.int .i64 act) := c 0 (by omega)
          have c1 : wr.cell? ⟨ab, ao + k * 7 + 1, none⟩ = some (.string name) := c 1 (by omega)
          have c2 : wr.cell? ⟨ab, ao + k * 7 + 2, none⟩ = some tv := c 2 (by omega)
          have c3 : wr.cell? ⟨ab, ao + k * 7 + 3, none⟩ = some (.bool inn) := c 3 (by omega)
          have c4 : wr.cell? ⟨ab, ao + k * 7 + 4, none⟩ = some (.string contact) := c 4 (by omega)
          have c5 : wr.cell? ⟨ab, ao + k * 7 + 5, none⟩ = some gv := c 5 (by omega)
          have c6 : wr.cell? ⟨ab, ao + k * 7 + 6, none⟩ = some (.string sub) := c 6 (by omega)
          clear C c hb hcl hst hsg hops ho hlt
          go_wp2_with fail
          refine HC.out.mono ?_
          rintro e w4 ⟨rfl, X', Y', hm4, _⟩
          have H4 := Lib.hid hm4
          clear hm4 HC c0 c1 c2 c3 c4 c5 c6 HM
          go_wp2_with fail
          refine (shelf_law H4.out (by omega)).mono ?_
          rintro e w5 ⟨vn1, vt1, rfl, hn1, ht1, hb5⟩
          have H5 := Lib.hid (And.intro hn1 (And.intro ht1 (H4.out.call hb5)))
          clear hn1 ht1 hb5
          go_wp2_with fail
          refine (rshelf_law H5.out.2.2 (by omega)).mono ?_
          rintro e w6 ⟨vn2, vt2, rfl, hn2, ht2, hb6⟩
          have C6 := sameSh_true X'.most X'.rules X'.chosen vn1 vt1 vn2 vt2 _ _ (Seq.below H5.out.1 hb6 (fun j hj => (Seq.lt H5.out.1 j hj).2)) hn2 (H5.out.2.1.below hb6) ht2 (by rw [List.length_map]; have := H5.out.2.2.len; omega)
          have H6 := Lib.hid (H5.out.2.2.call hb6)
          have HC6 := Lib.hid C6
          clear hn2 ht2 hb6 C6 H5
          go_wp2_with fail
          refine HC6.out.mono ?_
          rintro e w7 ⟨rfl, hb7⟩
          have H7 := Lib.hid (H6.out.call hb7)
          clear hb7 HC6 H6
          go_wp2_with fail
          go_roundg (min L 120 - (k + 1))
          case measure => have := HK.out; omega
          case rel => exact ⟨k + 1, _, _, by omega, rfl, by go_num, H7.out⟩
        · have t2 : decide ((k : Int) < 120) = false := by simp; omega
          go_wp2_with fail
          go_ret
          exact ⟨rfl, HM.out.below⟩
      · have t1 : decide ((k : Int) < (L : Int)) = false := by simpa using hlt
        go_wp2_with fail
        go_ret
        exact ⟨rfl, HM.out.below⟩

end Go.Proofs.YthbjcihdlhkboaaGreatDoor
