/- What the lists allow. -/
import Derived.Test.YthbjcihdlhkboaaGreatDoorLs2
import Derived.Deep.LoopGhost
import Derived.Deep.DeepCutAuto
import Derived.IntWalk
namespace Go.Proofs.YthbjcihdlhkboaaGreatDoor
set_option linter.unusedSimpArgs false
set_option linter.unusedVariables false
open Go.RowKit Go.Maps Go.Shelf Go.Lib

def LS.named (L : LS) (name : ByteArray) : ByteArray := if (L.get name).isSome then name else L.chosen
def firstFit (rs : List Rule) (inn : Bool) (contact : ByteArray) (groups : List ByteArray) (sub : ByteArray) : Bool :=
  match rs.find? (fun r => fitsS r inn contact groups sub) with
  | some r => r.allow
  | none => true
def LS.allows (L : LS) (name : ByteArray) (inn : Bool) (contact : ByteArray) (groups : List ByteArray) (sub : ByteArray) : Bool :=
  firstFit ((L.get (L.named name)).getD []) inn contact groups sub

theorem LAt.rules {w : World} {B lb mb n : Nat} {D : DataW Value} {L : LS} (h : LAt w B lb mb n D L) (s : ByteArray) :
    ∃ A cap, (mget D s).getD (.slice none 0 0) = .slice A ((L.get s).getD []).length cap ∧ Seq w B 138 5 (.slice A ((L.get s).getD []).length cap) ((L.get s).getD []).length (flatR ((L.get s).getD [])) ∧ ∀ r ∈ (L.get s).getD [], r.value.size ≤ 4294967296 := by
  rcases h.lists s with ⟨a, b⟩ | ⟨v, rs, a, b, c⟩
  · rw [a, b]
    exact ⟨none, 0, rfl, Seq.nil _ _ _ _, by simp⟩
  · obtain ⟨A, cap, rfl⟩ := c.shape
    rw [a, b]
    refine ⟨A, cap, rfl, c, fun r hr => ?_⟩
    obtain ⟨p, hp, rfl⟩ := LS.get_mem b
    exact h.small p hp r hr

theorem firstFit_none {rs : List Rule} {inn : Bool} {contact : ByteArray} {groups : List ByteArray} {sub : ByteArray} (h : ∀ j, j < rs.length → ∀ r, rs[j]? = some r → fitsS r inn contact groups sub = false) : firstFit rs inn contact groups sub = true := by
  unfold firstFit
  have : rs.find? (fun r => fitsS r inn contact groups sub) = none := by
    rw [List.find?_eq_none]
    intro r hr
    obtain ⟨j, hj, e⟩ := List.getElem_of_mem hr
    simp [h j hj r (by rw [List.getElem?_eq_getElem hj, e])]
  rw [this]

theorem firstFit_some {rs : List Rule} {inn : Bool} {contact : ByteArray} {groups : List ByteArray} {sub : ByteArray} {k : Nat} {r : Rule} (hr : rs[k]? = some r) (h : ∀ j, j < k → ∀ r, rs[j]? = some r → fitsS r inn contact groups sub = false)
    (hf : fitsS r inn contact groups sub = true) : firstFit rs inn contact groups sub = r.allow := by
  unfold firstFit
  have : rs.find? (fun r => fitsS r inn contact groups sub) = some r := by
    rw [List.find?_eq_some_iff_getElem]
    obtain ⟨hk, e⟩ := List.getElem?_eq_some_iff.1 hr
    refine ⟨hf, k, hk, e, fun j hj => ?_⟩
    simp [h j hj _ (List.getElem?_eq_getElem (by omega))]
  rw [this]

set_option maxRecDepth 100000 in
set_option maxHeartbeats 8000000 in
theorem allows_any {w : World} {B lb mb n : Nat} {D : DataW Value} {L : LS} (h : LAt w B lb mb n D L) (name : ByteArray) (inn : Bool) (contact : ByteArray) (v : Value) (groups : List ByteArray) (sub : ByteArray) (hs : name.size ≤ maxLen) (hg : Strs w v groups) :
    Calls Tryz.prog 44 #[.pointer (some ⟨lb, 0, none⟩), .string name, .bool inn, .string contact, v, .string sub] w fun e w' => e = .returned (.bool (L.allows name inn contact groups sub)) ∧ Below w.heap.size w w' := by
  have hmf : ∀ (fn : Fn) (first cap : Array Value) (w : World), (Instr.makeFunc fn first cap).run Tryz.prog w = .ok (.func fn first cap) w := fun _ _ _ _ => rfl
  obtain ⟨GA, gcap, hv⟩ : ∃ A cap, v = .slice A groups.length cap := let ⟨⟨A, cap, h, _⟩, _⟩ := hg; ⟨A, cap, h⟩
  subst hv
  obtain ⟨b, hb⟩ : ∃ b, (L.get name).isSome = b := ⟨_, rfl⟩
  obtain ⟨nm, hnm⟩ : ∃ x, L.named name = x := ⟨_, rfl⟩
  obtain ⟨rs, hrs⟩ : ∃ rs, (L.get nm).getD [] = rs := ⟨_, rfl⟩
  have hnl : nm.size ≤ maxLen := by
    rw [← hnm]; unfold LS.named
    split
    · exact hs
    · exact h.chose
  have C1 := Lib.hid (fun W (hW : Below w.heap.size w W) => hb ▸ has_any (h.below hW) name hs)
  have HG := Lib.hid hg
  have H := Lib.hid h
  have HB := Lib.hid hb
  have HNM := Lib.hid hnm
  have HNL := Lib.hid hnl
  have HRS := Lib.hid hrs
  unfold LS.allows
  rw [hnm, hrs]
  clear h hg hb hnm hs hnl hrs
  go_enter Tryz.func44, Tryz.ntmps44
  go_wp2_with fail
  refine (C1.out _ (by repeat (first | exact Below.refl _ _ | refine Below.alloc ?_ (by first | omega | (simp; done) | (simp; omega)) _))).mono ?_
  rintro e w1 ⟨rfl, hb1⟩
  have HW : Below w.heap.size w w1 := Below.trans (by repeat (first | exact Below.refl _ _ | refine Below.alloc ?_ (by first | omega | (simp; done) | (simp; omega)) _)) (hb1.mono (by first | (simp; done) | (simp; omega)))
  have d1 : w1.heap[w.heap.size]? = some (.cells #[.bool inn] 4) := blk_below (blk_alloc (blk_alloc (blk_alloc (blk_new _ _) _) _) _) hb1 (by first | (simp; done) | (simp; omega))
  have d2 : w1.heap[w.heap.size + 1]? = some (.cells #[.string contact] 9) := blk_below (blk_alloc (blk_alloc (blk_new' _ (by simp)) _) _) hb1 (by first | (simp; done) | (simp; omega))
  have d3 : w1.heap[w.heap.size + 1 + 1]? = some (.cells #[.slice GA groups.length gcap] 32) := blk_below (blk_alloc (blk_new' _ (by simp)) _) hb1 (by first | (simp; done) | (simp; omega))
  have d4 : w1.heap[w.heap.size + 1 + 1 + 1]? = some (.cells #[.string sub] 9) := blk_below (blk_new' _ (by simp)) hb1 (by first | (simp; done) | (simp; omega))
  have H1 := Lib.hid (H.out.below HW)
  have HG1 := Lib.hid (HG.out.below HW)
  have HD := Lib.hid (And.intro d1 (And.intro d2 (And.intro d3 d4)))
  have HW1 := Lib.hid HW
  clear C1 H HG hb1 HW d1 d2 d3 d4
  have c0 : w1.cell? ⟨lb, 0, none⟩ = some (.int .i64 L.most) := blk_cell H1.out.cells 0
  have c2 : w1.cell? ⟨lb, 2, none⟩ = some (.string L.chosen) := blk_cell H1.out.cells 2
  have c3 : w1.cell? ⟨lb, 3, none⟩ = some (.map (some mb)) := blk_cell H1.out.cells 3
  go_upto_if 19 with fail
  go_cut [1] (fun s1 wx => s1 = .string nm ∧ w1 = wx)
  case first =>
    cases b
    · go_wp2_with fail
      go_meet
      have e : nm = L.chosen := by rw [← HNM.out]; unfold LS.named; rw [HB.out]; rfl
      exact ⟨by rw [e], rfl⟩
    · go_wp2_with fail
      go_meet
      have e : nm = name := by rw [← HNM.out]; unfold LS.named; rw [HB.out]; rfl
      exact ⟨by rw [e], rfl⟩
  case rest =>
    obtain ⟨rfl, rfl⟩ := hcut
    have hl := look_eq H1.out.own H1.out.ok Tryz.underlying9 Tryz.underlying93 (ptrZero w1) HNL.out
    obtain ⟨A, cap, hv, hseq, hsm⟩ := H1.out.rules nm
    rw [hv, HRS.out] at hl
    rw [HRS.out] at hseq hsm
    have HS := Lib.hid hseq
    have HM := Lib.hid hsm
    clear hv hseq hsm
    go_wp2_with fail
    go_loopg [32] rs.length (fun g s32 wx => ∃ k : Nat, k ≤ rs.length ∧ g = rs.length - k ∧ s32 = .int .i64 k ∧ Below w1.heap.size w1 wx ∧ ∀ j, j < k → ∀ r, rs[j]? = some r → fitsS r inn contact groups sub = false)
    case atStart => exact ⟨0, by omega, rfl, rfl, Below.refl _ _, fun j hj => absurd hj (by omega)⟩
    case round =>
      obtain ⟨k, hk, hgk, rfl, hbx, hno⟩ := hrel
      have HX := Lib.hid hbx
      have HNO := Lib.hid hno
      clear hbx hno c0 c2 c3 hl
      by_cases hlt : k < rs.length
      · obtain ⟨r, hr⟩ : ∃ r, rs[k]? = some r := ⟨_, List.getElem?_eq_getElem hlt⟩
        obtain ⟨g, off, cap', hA, hlo, hgl, hcc⟩ := HS.out.form (by omega)
        obtain ⟨rfl, rfl⟩ : A = some ⟨g, off, none⟩ ∧ cap = cap' := by simpa using hA
        obtain ⟨e0, e1, e2, e3, e4⟩ := flatR_get rs k r hr
        have y0 : wr.cell? ⟨g, off + k * 5, none⟩ = some (.bool r.allow) := by
          refine (HX.out.cell hgl).trans ?_
          skip
          exact (HS.out.cell (k * 5) (by omega)).trans e0
        have y1 : wr.cell? ⟨g, off + k * 5 + 1, none⟩ = some (.bool r.inn) := by
          refine (HX.out.cell hgl).trans ?_
          rw [Nat.add_assoc]
          exact (HS.out.cell (k * 5 + 1) (by omega)).trans e1
        have y2 : wr.cell? ⟨g, off + k * 5 + 2, none⟩ = some (.bool r.out) := by
          refine (HX.out.cell hgl).trans ?_
          rw [Nat.add_assoc]
          exact (HS.out.cell (k * 5 + 2) (by omega)).trans e2
        have y3 : wr.cell? ⟨g, off + k * 5 + 3, none⟩ = some (.string r.by_) := by
          refine (HX.out.cell hgl).trans ?_
          rw [Nat.add_assoc]
          exact (HS.out.cell (k * 5 + 3) (by omega)).trans e3
        have y4 : wr.cell? ⟨g, off + k * 5 + 4, none⟩ = some (.string r.value) := by
          refine (HX.out.cell hgl).trans ?_
          rw [Nat.add_assoc]
          exact (HS.out.cell (k * 5 + 4) (by omega)).trans e4
        have t1 : decide ((k : Int) < (rs.length : Int)) = true := by simpa using hlt
        have t2 : (k : Int) < (rs.length : Int) := by omega
        have hml : rs.length ≤ maxLen := HS.out.len_le
        have hw : IntKind.i64.wrap ((k : Int) + 1) = (k : Int) + 1 := IntWalk.i64_in _ (by unfold maxLen at hml; omega)
        have hsmall : r.value.size ≤ 4294967296 := HM.out r (List.mem_of_getElem? hr)
        obtain ⟨D1, D2, D3, D4⟩ := HD.out
        have q1 := blk_alloc (blk_below D1 HX.out (blk_lt D1)) (.cells #[.bool r.allow, .bool r.inn, .bool r.out, .string r.by_, .string r.value] 138)
        have q2 := blk_alloc (blk_below D2 HX.out (blk_lt D2)) (.cells #[.bool r.allow, .bool r.inn, .bool r.out, .string r.by_, .string r.value] 138)
        have q3 := blk_alloc (blk_below D3 HX.out (blk_lt D3)) (.cells #[.bool r.allow, .bool r.inn, .bool r.out, .string r.by_, .string r.value] 138)
        have q4 := blk_alloc (blk_below D4 HX.out (blk_lt D4)) (.cells #[.bool r.allow, .bool r.inn, .bool r.out, .string r.by_, .string r.value] 138)
        have C2 := fits_any r inn contact sub (.slice GA groups.length gcap) groups w.heap.size (w.heap.size + 1) (w.heap.size + 1 + 1) (w.heap.size + 1 + 1 + 1) (wr.alloc (.cells #[.bool r.allow, .bool r.inn, .bool r.out, .string r.by_, .string r.value] 138))
          (blk_cell q1 0) (blk_cell q2 0) (blk_cell q3 0) (blk_cell q4 0) (HG1.out.below (HX.out.alloc HX.out.size _)) hsmall
        have HR := Lib.hid hr
        have HK := Lib.hid (And.intro hk hgk)
        clear D1 D2 D3 D4 q1 q2 q3 q4 hA hlo hcc hml hsmall hr e0 e1 e2 e3 e4 hgk hk
        cases hf : fitsS r inn contact groups sub
        · rw [hf] at C2
          have HF := Lib.hid hf
          have C3 := Lib.hid C2
          clear hf C2
          go_wp2_with fail
          refine C3.out.mono ?_
          rintro e w3 ⟨rfl, hb3⟩
          go_wp2_with fail
          go_roundg (rs.length - (k + 1))
          case measure => have := HK.out.2; omega
          case rel =>
            refine ⟨k + 1, by omega, rfl, by go_num, HX.out.trans (Below.trans ((Below.refl _ _).alloc HX.out.size _) (hb3.mono (by have := HX.out.size; simp; omega))), ?_⟩
            intro j hj r' hr'
            by_cases e : j = k
            · subst e
              rw [HR.out] at hr'
              cases hr'
              exact HF.out
            · exact HNO.out j (by omega) r' hr'
        · rw [hf] at C2
          have HF := Lib.hid hf
          have C3 := Lib.hid C2
          clear hf C2
          go_wp2_with fail
          refine C3.out.mono ?_
          rintro e w3 ⟨rfl, hb3⟩
          have p0 : w3.cell? ⟨wr.heap.size, 0, none⟩ = some (.bool r.allow) := blk_cell (blk_below (blk_new wr _) hb3 (by simp)) 0
          go_wp2_with fail
          go_ret
          exact ⟨by rw [firstFit_some HR.out HNO.out HF.out]; rfl, HW1.out.trans (Below.mono (HX.out.trans (Below.trans ((Below.refl _ _).alloc HX.out.size _) (hb3.mono (by have := HX.out.size; simp; omega)))) HW1.out.size)⟩
      · have e : k = rs.length := by omega
        subst e
        have t1 : decide ((rs.length : Int) < (rs.length : Int)) = false := by simp
        go_wp2_with fail
        go_ret
        exact ⟨by rw [firstFit_none HNO.out]; rfl, HW1.out.trans (HX.out.mono HW1.out.size)⟩

end Go.Proofs.YthbjcihdlhkboaaGreatDoor
