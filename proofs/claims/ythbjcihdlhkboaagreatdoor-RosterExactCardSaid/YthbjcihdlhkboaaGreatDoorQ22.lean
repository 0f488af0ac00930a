/- Drop, as a whole. The same texts? The same texts? The same entry? The reference's roster is the same state: its entries are all of the roster's, rising. Texts, rising, none twice: laid one by one where they belong, or sorted and then compacted. The reference of chapter 15: Right, Act, Hear at any half. -/
import Derived.Deep.LoopGhost
import Derived.Deep.DeepCutAuto
import Derived.IntWalk
import Derived.Deep.QuietTactic
import Derived.BigQuiet
import Derived.Test.YthbjcihdlhkboaaGreatDoorQ06
import Derived.Test.YthbjcihdlhkboaaGreatDoorQ10
import Derived.Test.YthbjcihdlhkboaaGreatDoorQ20
import Derived.Test.YthbjcihdlhkboaaGreatDoorQ21
namespace Go.Proofs.YthbjcihdlhkboaaGreatDoor
set_option linter.unusedSimpArgs false
set_option linter.unusedVariables false
open Go.RowKit Go.Maps Go.Shelf Go.Lib

/-- The world at the head of what is tried. -/
abbrev dropW (w : World) (rb : Nat) (s : ByteArray) : World :=
  ((w.alloc (.cells #[.pointer (some ⟨rb, 0, none⟩)] 42)).alloc (.cells #[.string s] 9)).alloc (entC Ent.zero (.slice none 0 0))
theorem dropW_size (w : World) (rb : Nat) (s : ByteArray) : (dropW w rb s).heap.size = w.heap.size + 3 := by simp
theorem dropW_below (w : World) (rb : Nat) (s : ByteArray) : Below w.heap.size w (dropW w rb s) :=
  ((((Below.refl _ _).alloc (Nat.le_refl _) _).alloc (by simp) _).alloc (by simp <;> omega) _)
theorem dropW_box (w : World) (rb : Nat) (s : ByteArray) : DropBox (dropW w rb s) w.heap.size rb s Ent.zero (.slice none 0 0) where
  b0 := blk_alloc (blk_alloc (blk_new _ _) _) _
  b1 := blk_alloc (blk_new' _ (by simp)) _
  b2 := blk_new' _ (by simp)

/-- What Drop leaves. -/
structure DropEnd (w w' : World) (B rb mb n : Nat) (R : RS) (e : Ent) : Prop where
  ro : AnyRo w w' B rb mb n R
  upd : Upd w.heap.size (fun k => k = rb ∨ k = mb) w w'
  b2 : ∃ A c, w'.heap[w.heap.size + 2]? = some (entC e (.slice A e.groups.length c)) ∧ Grp w' w.heap.size (.slice A e.groups.length c) e.groups

/-- What is tried of a Drop. -/
theorem drop_tried {w : World} {B rb mb n : Nat} {D : DataW Value} {R : RS} (h : RoAt w B rb mb n D R) (hT : Tabs w) (s : ByteArray) (hs : s.size ≤ 9223372036854775807)
    (hn : n ≤ 1000000) (hB : B ≤ w.heap.size) (hv0 : 0 ≤ R.ver) (hv1 : R.ver < 18446744073709551615) :
    Calls Tryz.prog 58 #[.func (.func 66) #[] (dropCaps w.heap.size)] (dropW w rb s) fun e w' =>
      e = .returned (.int .i64 (R.dropAll s).2.2) ∧ DropEnd w w' B rb mb (n + 1) (R.dropAll s).1 (R.dropAll s).2.1 := by
  have hE : ∀ args w, (callFunc 66 args).run Tryz.prog w = .ok (.enter 66 args) w := enters_of Tryz.func66 (by kernel_rfl) rfl
  have hbA := dropW_below w rb s
  have hsz := dropW_size w rb s
  have hbx := dropW_box w rb s
  generalize dropW w rb s = WA at *
  obtain ⟨E, hEe⟩ : ∃ E, (Obj.cells #[.int .i64 0] 24) = E := ⟨_, rfl⟩
  have hbE : Below WA.heap.size WA (WA.alloc E) := (Below.refl _ _).alloc (Nat.le_refl _) _
  have hbWE : Below w.heap.size w (WA.alloc E) := hbA.trans (hbE.mono (by omega))
  have hszE : (WA.alloc E).heap.size = w.heap.size + 4 := by simp; omega
  have hlt := h.lt
  have hC := drop1_any (h.below hbWE) (hT.later hbWE) w.heap.size s hs (hbx.below hbE) hn (by omega) hlt hv0 hv1
  have hbox : (WA.alloc E).heap[WA.heap.size]? = some E := blk_new _ _
  have hun : (R.dropAll s).2.2 ≠ 0 → (R.dropAll s).1 = R ∧ (R.dropAll s).2.1 = Ent.zero := by
    unfold RS.dropAll
    repeat' split
    all_goals simp
  generalize R.dropAll s = X at *
  obtain ⟨R', x, c⟩ := X
  simp only at hC hun ⊢
  by_cases hc : c = 0
  · subst hc
    subst hEe
    refine (tries_ok 66 (dropCaps w.heap.size) WA (fun w' => DropDone (WA.alloc (.cells #[.int .i64 0] 24)) w' B rb mb n w.heap.size R' x) hE (hC.mono fun e w' hp => ?_)).mono ?_
    · rcases hp with ⟨h0, _⟩ | ⟨_, a, b⟩
      · exact absurd rfl h0
      · exact ⟨a, blk_upd hbox b.upd (blk_lt hbox) (by rintro (e | e | e) <;> omega), b⟩
    · rintro e w' ⟨rfl, w1, hd, hx1, rfl⟩
      have hu : Upd w1.heap.size (fun k => k = WA.heap.size) w1 (w1.setCell ⟨WA.heap.size, 0, none⟩ (.int .i64 0)) := Upd.setCell (ks := fun k => k = WA.heap.size) (Upd.refl _ _ _) (a := (⟨WA.heap.size, 0, none⟩ : Addr)) (.inl rfl) _
      obtain ⟨A, cc, hb4, hg4⟩ := hd.b2
      refine ⟨rfl, ?_, ?_, A, cc, ?_, ?_⟩
      · obtain ⟨n', D', hn', hro⟩ := hd.ro
        refine ⟨n', D', hn', RoAtK.upd hro hu (Nat.le_refl _) (by omega) (by omega) ?_⟩
        rintro k cur hk _ e
        subst e
        rw [hx1] at hk
        simp at hk
      · exact (upd_of_boxes hbWE hd.upd (by omega) (by rintro k (e | e | e); exact .inl e; exact .inr (.inl e); exact .inr (.inr (by omega)))).setCell (.inr (by show w.heap.size ≤ WA.heap.size; omega)) _
      · exact blk_set_other hb4 _ (by show w.heap.size + 2 ≠ WA.heap.size; omega)
      · refine (hg4.lower (by omega)).kept (fun k cur hk _ => Below.heap_setCell _ _ _ k ?_)
        rintro rfl
        rw [hx1] at hk
        simp at hk
  · obtain ⟨hR, hx⟩ := hun hc
    subst hR
    subst hx
    subst hEe
    refine (tries_no 66 (dropCaps w.heap.size) WA c (fun w' => Below (WA.alloc (.cells #[.int .i64 0] 24)).heap.size (WA.alloc (.cells #[.int .i64 0] 24)) w') hE (hC.mono fun e w' hp => ?_)).mono ?_
    · rcases hp with ⟨_, a, b⟩ | ⟨h0, _⟩
      · exact ⟨a, blk_below hbox b (blk_lt hbox), b⟩
      · exact absurd h0 hc
    · rintro e w' ⟨rfl, w1, hb1, hx1, rfl⟩
      have hb2 : Below w.heap.size w w1 := hbWE.trans (hb1.mono (by omega))
      have hu : Upd w1.heap.size (fun k => k = WA.heap.size) w1 (w1.setCell ⟨WA.heap.size, 0, none⟩ (.int .i64 c)) := Upd.setCell (ks := fun k => k = WA.heap.size) (Upd.refl _ _ _) (a := (⟨WA.heap.size, 0, none⟩ : Addr)) (.inl rfl) _
      refine ⟨rfl, ⟨n, D, Nat.le_succ _, ?_⟩, Upd.of_below (Below.setCell hb2 (by show w.heap.size ≤ WA.heap.size; omega) _) (Nat.le_refl _), none, 0, ?_, Grp.nil _ _⟩
      · refine RoAtK.upd (h.below hb2) hu (Nat.le_refl _) (by omega) (by omega) ?_
        rintro k cur hk _ e
        subst e
        rw [hx1] at hk
        simp at hk
      · exact blk_set_other (blk_below (blk_alloc hbx.b2 _) hb1 (by simp; omega)) _ (by show w.heap.size + 2 ≠ WA.heap.size; omega)

set_option maxRecDepth 100000 in
set_option maxHeartbeats 8000000 in
theorem rdrop_any {w : World} {B rb mb n : Nat} {D : DataW Value} {R : RS} (h : RoAt w B rb mb n D R) (hT : Tabs w) (s : ByteArray) (hs : s.size ≤ 9223372036854775807)
    (hn : n ≤ 1000000) (hB : B ≤ w.heap.size) (hv0 : 0 ≤ R.ver) (hv1 : R.ver < 18446744073709551615) :
    Calls Tryz.prog 24 #[.pointer (some ⟨rb, 0, none⟩), .string s] w fun e w' =>
      (∃ A c, e = .returned (.tuple #[(R.dropAll s).2.1.val (.slice A (R.dropAll s).2.1.groups.length c), .int .i64 (R.dropAll s).2.2]) ∧ Grp w' w.heap.size (.slice A (R.dropAll s).2.1.groups.length c) (R.dropAll s).2.1.groups) ∧
      AnyRo w w' B rb mb (n + 1) (R.dropAll s).1 ∧ Upd w.heap.size (fun k => k = rb ∨ k = mb) w w' := by
  have C := drop_tried h hT s hs hn hB hv0 hv1
  have hlt := h.lt
  generalize R.dropAll s = X at *
  obtain ⟨R', ⟨contact, kept, name, groups, ⟨o, hn2, i, m⟩⟩, c⟩ := X
  have HC := Lib.hid C
  have hmf : ∀ (fn : Fn) (first cap : Array Value) (w : World), (Instr.makeFunc fn first cap).run Tryz.prog w = .ok (.func fn first cap) w := fun _ _ _ _ => rfl
  simp only at HC ⊢
  clear C h hT
  go_enter Tryz.func24, Tryz.ntmps24
  go_wp2_with fail
  refine HC.out.mono ?_
  rintro e w1 ⟨rfl, hE⟩
  obtain ⟨A, cc, hb4, hg4⟩ := hE.b2
  obtain ⟨x0, x1, x2, x3, x4, x5, x6, x7, f0, f1, f2, f3, f4, f5, f6, f7⟩ := cells8 hb4
  have HEE := Lib.hid (And.intro hE (And.intro hb4 hg4))
  clear hE hb4 hg4
  go_wp2_with fail
  obtain ⟨WW, hWW, h2, h3, h4, h5⟩ := put_fin HEE.out.1.ro HEE.out.1.upd hlt (b := w.heap.size + 1 + 1) (by omega) HEE.out.2.1 HEE.out.2.2
  rw [hWW]
  obtain ⟨j0, j1, j2, j3, j4, j5, j6, j7, _⟩ := cells8 h5
  have HFIN := Lib.hid (And.intro h2 (And.intro h3 h4))
  clear hWW h2 h3 h4 h5 HEE x0 x1 x2 x3 x4 x5 x6 x7 f0 f1 f2 f3 f4 f5 f6 f7 HC
  simp [bodyPost, results, Tryz.results24, go_sem, j0, j1, j2, j3, j4, j5, j6, j7]
  exact ⟨⟨A, cc, ⟨rfl, rfl⟩, HFIN.out.1⟩, HFIN.out.2⟩

end Go.Proofs.YthbjcihdlhkboaaGreatDoor

namespace Go.Proofs.YthbjcihdlhkboaaGreatDoor
set_option linter.unusedSimpArgs false
set_option linter.unusedVariables false
open Go.RowKit Go.Maps Go.Shelf Go.Lib

theorem below_drewNs (w : World) (n : Nat) : Below w.heap.size w (w.drewN n) := ⟨rfl, rfl, rfl, Nat.le_refl _, fun _ _ => rfl⟩
theorem Strs.at {w : World} {A : Option Addr} {n c : Nat} {l : List ByteArray} (h : Strs w (.slice A n c) l) {k : Nat} (hk : k < l.length) : ∃ b off, A = some ⟨b, off, none⟩ ∧ n = l.length ∧ b < w.heap.size ∧ w.cell? ⟨b, off + k, none⟩ = some (.string l[k]) := by
  obtain ⟨⟨A', cap', hv, hf⟩, _⟩ := h
  obtain ⟨b, off, hA, hlb, hc⟩ := hf (by omega)
  obtain ⟨rfl, rfl, rfl⟩ : A = A' ∧ n = l.length ∧ c = cap' := by simpa using hv
  refine ⟨b, off, hA, rfl, hlb, (hc k hk).trans ?_⟩
  rw [List.getD_eq_getElem?_getD, List.getElem?_eq_getElem hk]; rfl

theorem toList_inj {a b : ByteArray} (h : a.toList = b.toList) : a = b := by
  rw [Lib.toList_data, Lib.toList_data] at h
  exact Srt.data_inj h
theorem toList_beq (a b : ByteArray) : (a.toList == b.toList) = decide (a = b) := by
  rw [Bool.eq_iff_iff]
  simp only [beq_iff_eq, decide_eq_true_eq]
  exact ⟨toList_inj, fun h => by rw [h]⟩

set_option maxRecDepth 100000 in
set_option maxHeartbeats 4000000 in
theorem same_any (v1 v2 : Value) (l1 l2 : List ByteArray) (w : World) (h1 : Strs w v1 l1) (h2 : Strs w v2 l2) :
    Calls Tryz.prog 38 #[v1, v2] w fun e w' => e = .returned (.bool (decide (l1 = l2))) ∧ Below w.heap.size w w' := by
  obtain ⟨A1, c1, rfl⟩ : ∃ A c, v1 = .slice A l1.length c := let ⟨⟨A, cap, h, _⟩, _⟩ := h1; ⟨A, cap, h⟩
  obtain ⟨A2, c2, rfl⟩ : ∃ A c, v2 = .slice A l2.length c := let ⟨⟨A, cap, h, _⟩, _⟩ := h2; ⟨A, cap, h⟩
  have hlen := h1.2
  have HH := Lib.hid (And.intro h1 h2)
  clear h1 h2
  by_cases hl : l1.length = l2.length
  · have t1 : ((l1.length : Int) == (l2.length : Int)) = true := by simp [hl]
    have t2 : ((l1.length : Int) != (l2.length : Int)) = false := by simp [hl]
    have HL := Lib.hid hl
    obtain ⟨r, hr⟩ : ∃ r : Bool, decide (l1 = l2) = r := ⟨_, rfl⟩
    rw [hr]
    have HR := Lib.hid hr
    clear hr hl
    go_enter Tryz.func38, Tryz.ntmps38
    go_wp2_with fail
    go_loopg [5] l1.length (fun g s5 wx => ∃ k : Nat, k ≤ l1.length ∧ g = l1.length - k ∧ s5 = .int .i64 k ∧ l1.take k = l2.take k ∧ Below w.heap.size w wx)
    case atStart => exact ⟨0, Nat.zero_le _, rfl, rfl, rfl, Below.refl _ _⟩
    case round =>
      obtain ⟨k, hk, hgk, rfl, htk, hbx⟩ := hrel
      have HX := Lib.hid hbx
      have HK := Lib.hid (And.intro hk (And.intro hgk htk))
      clear hbx hk hgk htk
      by_cases hlt : k < l1.length
      · have t3 : (k : Int) < (l1.length : Int) := by omega
        have hlt2 : k < l2.length := by have := HL.out; omega
        have t4 : (k : Int) < (l2.length : Int) := by omega
        obtain ⟨b1, o1, rfl, _, _, y1⟩ := (HH.out.1.below HX.out).at hlt
        obtain ⟨b2, o2, rfl, _, _, y2⟩ := (HH.out.2.below HX.out).at hlt2
        have hw : IntKind.i64.wrap ((k : Int) + 1) = (k : Int) + 1 := IntWalk.i64_in _ (by omega)
        have e1 : l1.take (k + 1) = l1.take k ++ [l1[k]] := List.take_succ_eq_append_getElem hlt
        have e2 : l2.take (k + 1) = l2.take k ++ [l2[k]] := List.take_succ_eq_append_getElem hlt2
        have t0 : (0 : Int) ≤ (k : Int) := by omega
        obtain ⟨x1, hx1⟩ : ∃ x, l1[k] = x := ⟨_, rfl⟩
        obtain ⟨x2, hx2⟩ : ∃ x, l2[k] = x := ⟨_, rfl⟩
        rw [hx1] at y1 e1
        rw [hx2] at y2 e2
        have HE := Lib.hid (And.intro e1 e2)
        have HX2 := Lib.hid (And.intro hx1 hx2)
        clear e1 e2 hx1 hx2
        by_cases hx : x1 = x2
        · subst hx
          go_wp2_with fail
          go_quiet (fail)
          go_wp2_with fail
          go_roundg (l1.length - (k + 1))
          case measure => have := HK.out.2.1; omega
          case rel => exact ⟨k + 1, by omega, rfl, by go_num, by rw [HE.out.1, HE.out.2, HK.out.2.2], HX.out.trans ((below_drewNs _ _).mono HX.out.size)⟩
        · have hne : l1 ≠ l2 := by
            intro e
            subst e
            exact hx (HX2.out.1.symm.trans HX2.out.2)
          have hrf : r = false := by rw [← HR.out]; simp [hne]
          subst hrf
          have t6 : (x1.toList == x2.toList) = false := by rw [toList_beq]; simp [hx]
          have t7 : (x1.toList != x2.toList) = true := by simp only [bne, t6]; rfl
          clear hx hne
          go_wp2_with fail
          go_quiet (fail)
          go_wp2_with fail
          go_ret
          exact ⟨rfl, HX.out.trans ((below_drewNs _ _).mono HX.out.size)⟩
      · have hke : k = l1.length := by have := HK.out.1; omega
        have heq : l1 = l2 := by
          have := HK.out.2.2
          rw [hke, List.take_length, HL.out, List.take_length] at this
          exact this
        have hrf : r = true := by rw [← HR.out]; simp [heq]
        subst hrf
        have t3 : ¬ (k : Int) < (l1.length : Int) := by omega
        clear heq hke
        go_wp2_with fail
        go_ret
        exact ⟨rfl, HX.out⟩
  · have hr : decide (l1 = l2) = false := by simp; intro e; exact hl (by rw [e])
    rw [hr]
    have t1 : ((l1.length : Int) == (l2.length : Int)) = false := by simp; omega
    have t2 : ((l1.length : Int) != (l2.length : Int)) = true := by simp; omega
    clear hr hl
    go_enter Tryz.func38, Tryz.ntmps38
    go_wp2_with fail
    go_ret
    exact ⟨rfl, Below.refl _ _⟩

end Go.Proofs.YthbjcihdlhkboaaGreatDoor

namespace Go.Proofs.YthbjcihdlhkboaaGreatDoor
set_option linter.unusedSimpArgs false
set_option linter.unusedVariables false
open Go.RowKit Go.Maps Go.Shelf Go.Lib

/-- The same entry, as the law asks. -/
def sameE (a b : Ent) : Bool := a.contact.toList == b.contact.toList && (a.kept == b.kept && (a.name.toList == b.name.toList && (decide (a.groups = b.groups) && (a.half.o == b.half.o && (a.half.n == b.half.n && (a.half.i == b.half.i && a.half.m == b.half.m))))))
theorem sameE_eq (a b : Ent) : sameE a b = decide (a = b) := by
  obtain ⟨c1, k1, n1, g1, ⟨o1, m1, i1, p1⟩⟩ := a
  obtain ⟨c2, k2, n2, g2, ⟨o2, m2, i2, p2⟩⟩ := b
  unfold sameE
  rw [toList_beq, toList_beq]
  rw [Bool.eq_iff_iff]
  simp [Bool.and_eq_true]

set_option maxRecDepth 100000 in
set_option maxHeartbeats 16000000 in
theorem sameEnt_any (a b : Ent) (g1 g2 : Value) (w : World) (h1 : Strs w g1 a.groups) (h2 : Strs w g2 b.groups) :
    Calls Tryz.prog 27 #[a.val g1, b.val g2] w fun e w' => e = .returned (.bool (sameE a b)) ∧ Below w.heap.size w w' := by
  obtain ⟨A1, c1, rfl⟩ : ∃ A c, g1 = .slice A a.groups.length c := let ⟨⟨A, cap, h, _⟩, _⟩ := h1; ⟨A, cap, h⟩
  obtain ⟨A2, c2, rfl⟩ : ∃ A c, g2 = .slice A b.groups.length c := let ⟨⟨A, cap, h, _⟩, _⟩ := h2; ⟨A, cap, h⟩
  have CS := Lib.hid (fun (W : World) (hW : Below w.heap.size w W) => same_any _ _ _ _ W (h1.below hW) (h2.below hW))
  clear h1 h2
  unfold sameE
  obtain ⟨ac, ak, an, ag, ⟨ao, am, ai, ap⟩⟩ := a
  obtain ⟨bc, bk, bn, bg, ⟨bo, bm, bi, bp⟩⟩ := b
  simp only at CS ⊢
  obtain ⟨q4, hq4⟩ : ∃ q, decide (ag = bg) = q := ⟨_, rfl⟩
  rw [hq4] at CS ⊢
  clear hq4
  cases t0 : ac.toList == bc.toList
  · go_enter Tryz.func27, Tryz.ntmps27
    go_wp2_with fail
    go_ret
    exact ⟨rfl, (((Below.refl _ _).alloc (Nat.le_refl _) _).alloc (by simp) _)⟩
  · skip
    cases t1 : ak == bk
    · go_enter Tryz.func27, Tryz.ntmps27
      go_wp2_with fail
      go_ret
      exact ⟨rfl, (((Below.refl _ _).alloc (Nat.le_refl _) _).alloc (by simp) _)⟩
    · skip
      cases t2 : an.toList == bn.toList
      · go_enter Tryz.func27, Tryz.ntmps27
        go_wp2_with fail
        go_ret
        exact ⟨rfl, (((Below.refl _ _).alloc (Nat.le_refl _) _).alloc (by simp) _)⟩
      · skip
        cases q4
        · go_enter Tryz.func27, Tryz.ntmps27
          go_wp2_with fail
          refine (CS.out _ (((Below.refl _ _).alloc (Nat.le_refl _) _).alloc (by simp) _)).mono ?_
          rintro e w1 ⟨rfl, hb1⟩
          obtain ⟨x0, x1, x2, x3, x4, x5, x6, x7, _⟩ := cells8 (blk_below (blk_alloc (blk_new w (.cells #[.string ac, .bool ak, .string an, .slice A1 ag.length c1, .int .i64 ao, .int .u64 am, .int .i64 ai, .int .u64 ap] 54)) (.cells #[.string bc, .bool bk, .string bn, .slice A2 bg.length c2, .int .i64 bo, .int .u64 bm, .int .i64 bi, .int .u64 bp] 54)) hb1 (by simp; omega))
          obtain ⟨y0, y1, y2, y3, y4, y5, y6, y7, _⟩ := cells8 (blk_below (blk_new' (.cells #[.string bc, .bool bk, .string bn, .slice A2 bg.length c2, .int .i64 bo, .int .u64 bm, .int .i64 bi, .int .u64 bp] 54) (by simp)) hb1 (b := w.heap.size + 1) (by simp))
          have HF := Lib.hid ((Below.trans (B := w.heap.size) (((Below.refl _ _).alloc (Nat.le_refl _) _).alloc (by simp) _) (hb1.mono (by simp; omega))))
          clear hb1
          go_wp2_with fail
          go_ret
          exact ⟨rfl, HF.out⟩
        · skip
          cases t4 : ao == bo
          · go_enter Tryz.func27, Tryz.ntmps27
            go_wp2_with fail
            refine (CS.out _ (((Below.refl _ _).alloc (Nat.le_refl _) _).alloc (by simp) _)).mono ?_
            rintro e w1 ⟨rfl, hb1⟩
            obtain ⟨x0, x1, x2, x3, x4, x5, x6, x7, _⟩ := cells8 (blk_below (blk_alloc (blk_new w (.cells #[.string ac, .bool ak, .string an, .slice A1 ag.length c1, .int .i64 ao, .int .u64 am, .int .i64 ai, .int .u64 ap] 54)) (.cells #[.string bc, .bool bk, .string bn, .slice A2 bg.length c2, .int .i64 bo, .int .u64 bm, .int .i64 bi, .int .u64 bp] 54)) hb1 (by simp; omega))
            obtain ⟨y0, y1, y2, y3, y4, y5, y6, y7, _⟩ := cells8 (blk_below (blk_new' (.cells #[.string bc, .bool bk, .string bn, .slice A2 bg.length c2, .int .i64 bo, .int .u64 bm, .int .i64 bi, .int .u64 bp] 54) (by simp)) hb1 (b := w.heap.size + 1) (by simp))
            have HF := Lib.hid ((Below.trans (B := w.heap.size) (((Below.refl _ _).alloc (Nat.le_refl _) _).alloc (by simp) _) (hb1.mono (by simp; omega))))
            clear hb1
            go_wp2_with fail
            go_ret
            exact ⟨rfl, HF.out⟩
          · skip
            cases t5 : am == bm
            · go_enter Tryz.func27, Tryz.ntmps27
              go_wp2_with fail
              refine (CS.out _ (((Below.refl _ _).alloc (Nat.le_refl _) _).alloc (by simp) _)).mono ?_
              rintro e w1 ⟨rfl, hb1⟩
              obtain ⟨x0, x1, x2, x3, x4, x5, x6, x7, _⟩ := cells8 (blk_below (blk_alloc (blk_new w (.cells #[.string ac, .bool ak, .string an, .slice A1 ag.length c1, .int .i64 ao, .int .u64 am, .int .i64 ai, .int .u64 ap] 54)) (.cells #[.string bc, .bool bk, .string bn, .slice A2 bg.length c2, .int .i64 bo, .int .u64 bm, .int .i64 bi, .int .u64 bp] 54)) hb1 (by simp; omega))
              obtain ⟨y0, y1, y2, y3, y4, y5, y6, y7, _⟩ := cells8 (blk_below (blk_new' (.cells #[.string bc, .bool bk, .string bn, .slice A2 bg.length c2, .int .i64 bo, .int .u64 bm, .int .i64 bi, .int .u64 bp] 54) (by simp)) hb1 (b := w.heap.size + 1) (by simp))
              have HF := Lib.hid ((Below.trans (B := w.heap.size) (((Below.refl _ _).alloc (Nat.le_refl _) _).alloc (by simp) _) (hb1.mono (by simp; omega))))
              clear hb1
              go_wp2_with fail
              go_ret
              exact ⟨rfl, HF.out⟩
            · skip
              cases t6 : ai == bi
              · go_enter Tryz.func27, Tryz.ntmps27
                go_wp2_with fail
                refine (CS.out _ (((Below.refl _ _).alloc (Nat.le_refl _) _).alloc (by simp) _)).mono ?_
                rintro e w1 ⟨rfl, hb1⟩
                obtain ⟨x0, x1, x2, x3, x4, x5, x6, x7, _⟩ := cells8 (blk_below (blk_alloc (blk_new w (.cells #[.string ac, .bool ak, .string an, .slice A1 ag.length c1, .int .i64 ao, .int .u64 am, .int .i64 ai, .int .u64 ap] 54)) (.cells #[.string bc, .bool bk, .string bn, .slice A2 bg.length c2, .int .i64 bo, .int .u64 bm, .int .i64 bi, .int .u64 bp] 54)) hb1 (by simp; omega))
                obtain ⟨y0, y1, y2, y3, y4, y5, y6, y7, _⟩ := cells8 (blk_below (blk_new' (.cells #[.string bc, .bool bk, .string bn, .slice A2 bg.length c2, .int .i64 bo, .int .u64 bm, .int .i64 bi, .int .u64 bp] 54) (by simp)) hb1 (b := w.heap.size + 1) (by simp))
                have HF := Lib.hid ((Below.trans (B := w.heap.size) (((Below.refl _ _).alloc (Nat.le_refl _) _).alloc (by simp) _) (hb1.mono (by simp; omega))))
                clear hb1
                go_wp2_with fail
                go_ret
                exact ⟨rfl, HF.out⟩
              · skip
                cases t7 : ap == bp
                · go_enter Tryz.func27, Tryz.ntmps27
                  go_wp2_with fail
                  refine (CS.out _ (((Below.refl _ _).alloc (Nat.le_refl _) _).alloc (by simp) _)).mono ?_
                  rintro e w1 ⟨rfl, hb1⟩
                  obtain ⟨x0, x1, x2, x3, x4, x5, x6, x7, _⟩ := cells8 (blk_below (blk_alloc (blk_new w (.cells #[.string ac, .bool ak, .string an, .slice A1 ag.length c1, .int .i64 ao, .int .u64 am, .int .i64 ai, .int .u64 ap] 54)) (.cells #[.string bc, .bool bk, .string bn, .slice A2 bg.length c2, .int .i64 bo, .int .u64 bm, .int .i64 bi, .int .u64 bp] 54)) hb1 (by simp; omega))
                  obtain ⟨y0, y1, y2, y3, y4, y5, y6, y7, _⟩ := cells8 (blk_below (blk_new' (.cells #[.string bc, .bool bk, .string bn, .slice A2 bg.length c2, .int .i64 bo, .int .u64 bm, .int .i64 bi, .int .u64 bp] 54) (by simp)) hb1 (b := w.heap.size + 1) (by simp))
                  have HF := Lib.hid ((Below.trans (B := w.heap.size) (((Below.refl _ _).alloc (Nat.le_refl _) _).alloc (by simp) _) (hb1.mono (by simp; omega))))
                  clear hb1
                  go_wp2_with fail
                  go_ret
                  exact ⟨rfl, HF.out⟩
                · go_enter Tryz.func27, Tryz.ntmps27
                  go_wp2_with fail
                  refine (CS.out _ (((Below.refl _ _).alloc (Nat.le_refl _) _).alloc (by simp) _)).mono ?_
                  rintro e w1 ⟨rfl, hb1⟩
                  obtain ⟨x0, x1, x2, x3, x4, x5, x6, x7, _⟩ := cells8 (blk_below (blk_alloc (blk_new w (.cells #[.string ac, .bool ak, .string an, .slice A1 ag.length c1, .int .i64 ao, .int .u64 am, .int .i64 ai, .int .u64 ap] 54)) (.cells #[.string bc, .bool bk, .string bn, .slice A2 bg.length c2, .int .i64 bo, .int .u64 bm, .int .i64 bi, .int .u64 bp] 54)) hb1 (by simp; omega))
                  obtain ⟨y0, y1, y2, y3, y4, y5, y6, y7, _⟩ := cells8 (blk_below (blk_new' (.cells #[.string bc, .bool bk, .string bn, .slice A2 bg.length c2, .int .i64 bo, .int .u64 bm, .int .i64 bi, .int .u64 bp] 54) (by simp)) hb1 (b := w.heap.size + 1) (by simp))
                  have HF := Lib.hid ((Below.trans (B := w.heap.size) (((Below.refl _ _).alloc (Nat.le_refl _) _).alloc (by simp) _) (hb1.mono (by simp; omega))))
                  clear hb1
                  go_wp2_with fail
                  go_ret
                  exact ⟨rfl, HF.out⟩

end Go.Proofs.YthbjcihdlhkboaaGreatDoor

namespace Go.Proofs.YthbjcihdlhkboaaGreatDoor
set_option linter.unusedSimpArgs false
set_option linter.unusedVariables false
open Go.RowKit Go.Maps Go.Shelf Go.Lib

abbrev RS.rows (R : RS) : List Ent := R.all fun _ => true

/-- The entries are apart, and each stands under its contact. -/
structure RNm (R : RS) : Prop where
  apart : (R.list.map (·.1)).Nodup
  name : ∀ s e, R.get s = some e → e.contact = s

theorem RNm.new (x y : Int) : RNm (RS.new x y) := ⟨List.nodup_nil, fun s e h => by simp [RS.get, RS.new] at h⟩
theorem RNm.set {R : RS} (h : RNm R) (e : Ent) : RNm (R.set e) := ⟨RS.set_nodup h.apart e, fun s x hx => by
  rw [RS.get_set] at hx
  by_cases hs : s = e.contact
  · rw [if_pos hs] at hx
    split at hx
    · cases hx; exact hs.symm
    · cases hx
  · rw [if_neg hs] at hx; exact h.name s x hx⟩
theorem RNm.ver {R : RS} (h : RNm R) (v n : Int) : RNm { R with ver := v, next := n } := ⟨h.apart, h.name⟩
theorem RNm.entry {R : RS} (h : RNm R) (s : ByteArray) : (R.entry s).contact = s := by
  unfold RS.entry
  cases hg : R.get s with
  | none => rfl
  | some e => exact h.name s e hg

theorem ltS_lb {a b : List UInt8} (h : leB a b = true) (hne : a ≠ b) : Srt.ltS (lb a) (lb b) = true := by
  rw [Srt.ltS_iff]
  show a < b
  simp only [leB, decide_eq_true_eq] at h
  rcases Std.lt_trichotomy a b with e | e | e
  · exact e
  · exact absurd e hne
  · exact absurd e (List.not_lt.2 h)

theorem RNm.mem {R : RS} (h : RNm R) {e : Ent} : e ∈ R.rows ↔ R.get e.contact = some e := by
  unfold RS.rows
  rw [RS.mem_all]
  constructor
  · rintro ⟨⟨s, hs⟩, _⟩
    rw [h.name s e hs]; exact hs
  · intro he; exact ⟨⟨_, he⟩, rfl⟩

theorem RNm.sorted {R : RS} (h : RNm R) : Srt.Sorted Ent.contact R.rows := by
  unfold Srt.Sorted RS.rows RS.all
  refine List.Pairwise.filterMap (R := fun a b => leB a b = true ∧ a ≠ b) _ ?_ (List.Pairwise.and R.keys_sorted (RS.keys_nodup h.apart))
  rintro a a' ⟨h1, h2⟩ b hb b' hb'
  have hb1 := (Option.filter_eq_some_iff.1 hb).1
  have hb2 := (Option.filter_eq_some_iff.1 hb').1
  rw [h.name _ _ hb1, h.name _ _ hb2]
  exact ltS_lb h1 h2

/-- Where a contact stands. -/
def RS.at (R : RS) (s : ByteArray) : Nat := Srt.pos Ent.contact R.rows s

theorem RNm.is {R : RS} (h : RNm R) (s : ByteArray) : Srt.isAt Ent.contact R.rows s = (R.get s).isSome := by
  rw [Bool.eq_iff_iff, Srt.isAt_iff h.sorted]
  constructor
  · rintro ⟨r, hr, rfl⟩
    rw [h.mem.1 hr]; rfl
  · intro hs
    cases hg : R.get s with
    | none => rw [hg] at hs; cases hs
    | some e =>
      have hn := h.name s e hg
      exact ⟨e, h.mem.2 (by rw [hn]; exact hg), hn⟩
theorem RNm.get_at {R : RS} (h : RNm R) {s : ByteArray} {e : Ent} (hs : R.get s = some e) : R.rows[R.at s]? = some e := by
  obtain ⟨r, h1, h2, _⟩ := Srt.isAt_split (show Srt.isAt Ent.contact R.rows s = true by rw [h.is, hs]; rfl)
  have := h.mem.1 (List.mem_of_getElem? h1)
  rw [h2, hs] at this
  cases this
  exact h1
theorem RNm.rest {R : RS} (h : RNm R) (s : ByteArray) : Srt.rest Ent.contact R.rows s = R.at s + if (R.get s).isSome = true then 1 else 0 := by
  unfold Srt.rest; rw [h.is]; rfl

/-- An entry is laid. -/
theorem RNm.rows_set {R : RS} (h : RNm R) (e : Ent) : (R.set e).rows = Srt.put Ent.contact R.rows e.contact (if e.kept || !(e.half.i == 0) then [e] else []) := by
  refine Srt.ext (h.set e).sorted ?_ (fun r => ?_)
  · split
    · exact Srt.sorted_put h.sorted rfl
    · exact Srt.sorted_del h.sorted
  · rw [Srt.mem_put h.sorted, (h.set e).mem, RS.get_set, h.mem]
    by_cases hr : r.contact = e.contact
    · rw [if_pos hr]
      split
      · simp only [List.mem_singleton, Option.some.injEq]
        constructor
        · intro e1; exact .inl e1.symm
        · rintro (e1 | ⟨_, e1⟩)
          · exact e1.symm
          · exact absurd hr e1
      · constructor
        · intro e1; cases e1
        · rintro (e1 | ⟨_, e1⟩)
          · cases e1
          · exact absurd hr e1
    · rw [if_neg hr]
      constructor
      · intro e1; exact .inr ⟨e1, hr⟩
      · rintro (e1 | ⟨e1, _⟩)
        · split at e1
          · simp at e1; subst e1; exact absurd rfl hr
          · cases e1
        · exact e1

/-- Nothing is laid where nothing was. -/
theorem RS.set_none {R : RS} {e : Ent} (hk : e.kept = false) (hi : e.half.i = 0) (hg : (R.get e.contact).isSome = false) : R.set e = R := by
  unfold RS.set
  rw [hk, hi]
  simp only [beq_self_eq_true, Bool.not_true, Bool.or_false, Bool.false_eq_true, if_false]
  unfold RS.del
  rw [RS.get_isSome, List.any_eq_false] at hg
  have : R.list.filter (fun p => !decide (p.1 = e.contact)) = R.list := List.filter_eq_self.2 fun p hp => by have := hg p hp; simpa using this
  rw [this]

theorem RS.all_filter (R : RS) (p : Ent → Bool) : R.all p = R.rows.filter p := by
  unfold RS.rows RS.all
  generalize R.keys = ks
  induction ks with
  | nil => rfl
  | cons k ks ih =>
    rw [List.filterMap_cons, List.filterMap_cons]
    cases hg : R.get (lb k) with
    | none => simpa using ih
    | some e =>
      have h1 : (some e).filter (fun _ => true) = some e := rfl
      have h2 : (some e).filter p = if p e = true then some e else none := rfl
      rw [h1, h2]
      cases hp : p e
      · simp only [Bool.false_eq_true, if_false, List.filter_cons, hp]; exact ih
      · simp only [if_true, List.filter_cons, hp, ih]
theorem RNm.len {R : RS} (h : RNm R) : R.rows.length = R.list.length := by
  unfold RS.rows; rw [RS.all_length h.apart]; simp
theorem RNm.count {R : RS} (h : RNm R) : (R.rows.filter (·.kept)).length = R.kept := by
  rw [← RS.all_filter, RS.all_length h.apart]; rfl

/-- The contacts of whose half something holds. -/
def RS.withs (R : RS) (p : Half → Bool) : List ByteArray := (R.all fun e => p e.half).map (·.contact)
theorem RS.withs_eq (R : RS) (p : Half → Bool) : R.withs p = (R.rows.filter fun e => p e.half).map (·.contact) := by unfold RS.withs; rw [RS.all_filter]
end Go.Proofs.YthbjcihdlhkboaaGreatDoor

namespace Go.Proofs.YthbjcihdlhkboaaGreatDoor
set_option linter.unusedSimpArgs false
set_option linter.unusedVariables false
open Go.RowKit Go.Maps Go.Shelf Go.Lib

theorem cut_mem (d : Array (List UInt8)) (m : Nat) (x : List UInt8) : x ∈ compactUpTo d m ↔ ∃ j, j < m ∧ d[j]! = x := by
  induction m with
  | zero => simp [compactUpTo]
  | succ m ih =>
    rw [compactUpTo_succ, List.mem_append, ih]
    constructor
    · rintro (⟨j, hj, e⟩ | h)
      · exact ⟨j, by omega, e⟩
      · split at h
        · simp at h; exact ⟨m, by omega, h.symm⟩
        · cases h
    · rintro ⟨j, hj, e⟩
      by_cases hjm : j = m
      · subst hjm
        cases hk : keeps d j with
        | true => right; simp [e]
        | false =>
          left
          unfold keeps at hk
          simp only [decide_eq_false_iff_not, not_or, ne_eq, Decidable.not_not] at hk
          exact ⟨j - 1, by omega, by rw [← hk.2]; exact e⟩
      · exact .inl ⟨j, by omega, e⟩

theorem cut_strict (d : Array (List UInt8)) (hs : ∀ i j, i < j → j < d.size → leB d[i]! d[j]! = true) (m : Nat) (hm : m ≤ d.size) : (compactUpTo d m).Pairwise (fun a b => leB a b = true ∧ a ≠ b) := by
  induction m with
  | zero => simp [compactUpTo]
  | succ m ih =>
    rw [compactUpTo_succ]
    refine List.pairwise_append.2 ⟨ih (by omega), ?_, fun a ha b hb => ?_⟩
    · split <;> simp
    · cases hk : keeps d m with
      | false => rw [hk] at hb; simp at hb
      | true =>
        rw [hk] at hb
        simp only [if_true, List.mem_singleton] at hb
        subst hb
        obtain ⟨j, hj, rfl⟩ := (cut_mem d m a).1 ha
        refine ⟨hs j m hj (by omega), fun e => ?_⟩
        unfold keeps at hk
        simp only [decide_eq_true_eq] at hk
        rcases hk with hk | hk
        · omega
        · by_cases hj1 : j = m - 1
          · subst hj1; exact hk e.symm
          · have h1 := hs j (m - 1) (by omega) (by omega)
            have h2 := hs (m - 1) m (by omega) (by omega)
            rw [e] at h1
            exact hk (leB_anti h1 h2)

theorem sortG_sorted (gs : List ByteArray) : Srt.Sorted (fun s : ByteArray => s) (sortG gs) := by
  unfold Srt.Sorted sortG Lib.compact
  rw [List.pairwise_map]
  refine List.Pairwise.imp (fun h => ltS_lb h.1 h.2) (cut_strict _ (fun i j hij hj => ?_) _ (by simp))
  have hp := List.pairwise_mergeSort leB_trans leB_total (gs.map bl)
  simp only [List.size_toArray] at hj
  have := List.pairwise_iff_getElem.1 hp i j (by omega) hj hij
  rw [getElem!_pos _ i (by simp only [List.size_toArray]; omega), getElem!_pos _ j (by simpa only [List.size_toArray] using hj)]
  simpa only [List.getElem_toArray] using this
theorem sortG_mem (gs : List ByteArray) (x : ByteArray) : x ∈ sortG gs ↔ x ∈ gs := by
  unfold sortG Lib.compact
  rw [List.mem_map]
  constructor
  · rintro ⟨k, hk, rfl⟩
    obtain ⟨j, hj, e⟩ := (cut_mem _ _ _).1 hk
    have hm : k ∈ (gs.map bl).mergeSort leB := by
      rw [← e]
      simp only [getElem!_pos, List.size_toArray, hj, List.getElem_toArray]
      exact List.getElem_mem hj
    rw [List.mem_mergeSort] at hm
    obtain ⟨g, hg, rfl⟩ := List.mem_map.1 hm
    rw [lb_bl]; exact hg
  · intro h
    refine ⟨bl x, ?_, lb_bl x⟩
    have hm : bl x ∈ (gs.map bl).mergeSort leB := List.mem_mergeSort.2 (List.mem_map.2 ⟨x, h, rfl⟩)
    obtain ⟨j, hj, e⟩ := List.getElem_of_mem hm
    refine (cut_mem _ _ _).2 ⟨j, hj, ?_⟩
    simp only [getElem!_pos, List.size_toArray, hj, List.getElem_toArray]
    exact e

/-- One text more, where it belongs. -/
abbrev putT (out : List ByteArray) (x : ByteArray) : List ByteArray := Srt.put (fun s : ByteArray => s) out x [x]
abbrev sortR (gs : List ByteArray) : List ByteArray := gs.foldl putT []
theorem putT_sorted {out : List ByteArray} (h : Srt.Sorted (fun s : ByteArray => s) out) (x : ByteArray) : Srt.Sorted (fun s : ByteArray => s) (putT out x) := Srt.sorted_put h rfl
theorem putT_mem {out : List ByteArray} (h : Srt.Sorted (fun s : ByteArray => s) out) (x y : ByteArray) : y ∈ putT out x ↔ y = x ∨ y ∈ out := by
  rw [Srt.mem_put h]
  simp only [List.mem_singleton]
  constructor
  · rintro (e | ⟨e, _⟩)
    · exact .inl e
    · exact .inr e
  · rintro (e | e)
    · exact .inl e
    · by_cases hy : y = x
      · exact .inl hy
      · exact .inr ⟨e, hy⟩
theorem foldT {gs out : List ByteArray} (h : Srt.Sorted (fun s : ByteArray => s) out) : Srt.Sorted (fun s : ByteArray => s) (gs.foldl putT out) ∧ ∀ y, y ∈ gs.foldl putT out ↔ y ∈ gs ∨ y ∈ out := by
  induction gs generalizing out with
  | nil => exact ⟨h, fun y => by simp⟩
  | cons g gs ih =>
    obtain ⟨h1, h2⟩ := ih (putT_sorted h g)
    refine ⟨h1, fun y => ?_⟩
    rw [List.foldl_cons, h2, putT_mem h, List.mem_cons]
    constructor
    · rintro (e | e | e)
      · exact .inl (.inr e)
      · exact .inl (.inl e)
      · exact .inr e
    · rintro ((e | e) | e)
      · exact .inr (.inl e)
      · exact .inl e
      · exact .inr (.inr e)
theorem sortR_sorted (gs : List ByteArray) : Srt.Sorted (fun s : ByteArray => s) (sortR gs) := (foldT List.Pairwise.nil).1
theorem sortR_eq (gs : List ByteArray) : sortR gs = sortG gs := by
  refine Srt.ext (key := fun s : ByteArray => s) (sortR_sorted gs) (sortG_sorted gs) (fun r => ?_)
  rw [(foldT (gs := gs) (out := []) List.Pairwise.nil).2, sortG_mem]
  simp
theorem putT_len (out : List ByteArray) (x : ByteArray) : (putT out x).length ≤ out.length + 1 := by
  have := Srt.length_put (key := fun s : ByteArray => s) (l := out) (x := x) [x]
  simp only [List.length_singleton] at this
  unfold putT
  omega
theorem sortR_len_take (gs : List ByteArray) (k : Nat) : (sortR (gs.take k)).length ≤ k := by
  induction k with
  | zero => simp
  | succ k ih =>
    by_cases hk : k < gs.length
    · rw [List.take_succ_eq_append_getElem hk, sortR, List.foldl_append]
      have := putT_len (sortR (gs.take k)) gs[k]
      simp only [List.foldl_cons, List.foldl_nil]
      exact Nat.le_trans this (by omega)
    · rw [List.take_of_length_le (by omega)] at ih ⊢
      omega
end Go.Proofs.YthbjcihdlhkboaaGreatDoor

namespace Go.Proofs.YthbjcihdlhkboaaGreatDoor
set_option linter.unusedSimpArgs false
set_option linter.unusedVariables false
open Go.RowKit

set_option maxHeartbeats 1000000 in
theorem q15right_0 (o n i m : Int) (h1 : decide (0 ≤ o) = false) (w : World) :
    Calls Tryz.prog 137 #[.agg #[.int .i64 o, .int .u64 n, .int .i64 i, .int .u64 m]] w fun e w' => e = .returned (.bool false) ∧ w' = w.alloc (.cells #[.int .i64 o, .int .u64 n, .int .i64 i, .int .u64 m] 52) := by
  go_enter Tryz.func137, Tryz.ntmps137
  go_wp2_with fail
  go_ret
  exact ⟨rfl, rfl⟩

set_option maxHeartbeats 1000000 in
theorem q15right_1 (o n i m : Int) (h1 : decide (0 ≤ o) = true) (h2 : decide (o ≤ 2) = false) (w : World) :
    Calls Tryz.prog 137 #[.agg #[.int .i64 o, .int .u64 n, .int .i64 i, .int .u64 m]] w fun e w' => e = .returned (.bool false) ∧ w' = w.alloc (.cells #[.int .i64 o, .int .u64 n, .int .i64 i, .int .u64 m] 52) := by
  go_enter Tryz.func137, Tryz.ntmps137
  go_wp2_with fail
  go_ret
  exact ⟨rfl, rfl⟩

set_option maxHeartbeats 1000000 in
theorem q15right_2 (o n i m : Int) (h1 : decide (0 ≤ o) = true) (h2 : decide (o ≤ 2) = true) (h3 : decide (0 ≤ i) = false) (w : World) :
    Calls Tryz.prog 137 #[.agg #[.int .i64 o, .int .u64 n, .int .i64 i, .int .u64 m]] w fun e w' => e = .returned (.bool false) ∧ w' = w.alloc (.cells #[.int .i64 o, .int .u64 n, .int .i64 i, .int .u64 m] 52) := by
  go_enter Tryz.func137, Tryz.ntmps137
  go_wp2_with fail
  go_ret
  exact ⟨rfl, rfl⟩

set_option maxHeartbeats 1000000 in
theorem q15right_3 (o n i m : Int) (h1 : decide (0 ≤ o) = true) (h2 : decide (o ≤ 2) = true) (h3 : decide (0 ≤ i) = true) (h4 : decide (i ≤ 2) = false) (w : World) :
    Calls Tryz.prog 137 #[.agg #[.int .i64 o, .int .u64 n, .int .i64 i, .int .u64 m]] w fun e w' => e = .returned (.bool false) ∧ w' = w.alloc (.cells #[.int .i64 o, .int .u64 n, .int .i64 i, .int .u64 m] 52) := by
  go_enter Tryz.func137, Tryz.ntmps137
  go_wp2_with fail
  go_ret
  exact ⟨rfl, rfl⟩

set_option maxHeartbeats 1000000 in
theorem q15right_4 (o n i m : Int) (h1 : decide (0 ≤ o) = true) (h2 : decide (o ≤ 2) = true) (h3 : decide (0 ≤ i) = true) (h4 : decide (i ≤ 2) = true) (h5 : ((n == 0) == (o == 0)) = false) (w : World) :
    Calls Tryz.prog 137 #[.agg #[.int .i64 o, .int .u64 n, .int .i64 i, .int .u64 m]] w fun e w' => e = .returned (.bool false) ∧ w' = w.alloc (.cells #[.int .i64 o, .int .u64 n, .int .i64 i, .int .u64 m] 52) := by
  go_enter Tryz.func137, Tryz.ntmps137
  go_wp2_with fail
  go_ret
  exact ⟨rfl, rfl⟩

set_option maxHeartbeats 1000000 in
theorem q15right_5 (o n i m : Int) (h1 : decide (0 ≤ o) = true) (h2 : decide (o ≤ 2) = true) (h3 : decide (0 ≤ i) = true) (h4 : decide (i ≤ 2) = true) (h5 : ((n == 0) == (o == 0)) = true) (h6 : ((m == 0) == (i == 0)) = false) (w : World) :
    Calls Tryz.prog 137 #[.agg #[.int .i64 o, .int .u64 n, .int .i64 i, .int .u64 m]] w fun e w' => e = .returned (.bool false) ∧ w' = w.alloc (.cells #[.int .i64 o, .int .u64 n, .int .i64 i, .int .u64 m] 52) := by
  go_enter Tryz.func137, Tryz.ntmps137
  go_wp2_with fail
  go_ret
  exact ⟨rfl, rfl⟩

set_option maxHeartbeats 1000000 in
theorem q15right_6 (o n i m : Int) (h1 : decide (0 ≤ o) = true) (h2 : decide (o ≤ 2) = true) (h3 : decide (0 ≤ i) = true) (h4 : decide (i ≤ 2) = true) (h5 : ((n == 0) == (o == 0)) = true) (h6 : ((m == 0) == (i == 0)) = true) (w : World) :
    Calls Tryz.prog 137 #[.agg #[.int .i64 o, .int .u64 n, .int .i64 i, .int .u64 m]] w fun e w' => e = .returned (.bool true) ∧ w' = w.alloc (.cells #[.int .i64 o, .int .u64 n, .int .i64 i, .int .u64 m] 52) := by
  go_enter Tryz.func137, Tryz.ntmps137
  go_wp2_with fail
  go_ret
  exact ⟨rfl, rfl⟩

theorem q15right_any (o n i m : Int) (w : World) :
    Calls Tryz.prog 137 #[.agg #[.int .i64 o, .int .u64 n, .int .i64 i, .int .u64 m]] w fun e w' => e = .returned (.bool (sideB o n && sideB i m)) ∧ w' = w.alloc (.cells #[.int .i64 o, .int .u64 n, .int .i64 i, .int .u64 m] 52) := by
  unfold sideB
  rw [show ((o == 0) == (n == 0)) = ((n == 0) == (o == 0)) from Bool.beq_comm, show ((i == 0) == (m == 0)) = ((m == 0) == (i == 0)) from Bool.beq_comm]
  cases h1 : decide (0 ≤ o)
  · simpa using q15right_0 o n i m h1 w
  cases h2 : decide (o ≤ 2)
  · simpa using q15right_1 o n i m h1 h2 w
  cases h3 : decide (0 ≤ i)
  · simpa using q15right_2 o n i m h1 h2 h3 w
  cases h4 : decide (i ≤ 2)
  · simpa using q15right_3 o n i m h1 h2 h3 h4 w
  cases h5 : ((n == 0) == (o == 0))
  · simpa using q15right_4 o n i m h1 h2 h3 h4 h5 w
  cases h6 : ((m == 0) == (i == 0))
  · simpa using q15right_5 o n i m h1 h2 h3 h4 h5 h6 w
  simpa using q15right_6 o n i m h1 h2 h3 h4 h5 h6 w

set_option maxHeartbeats 1000000 in
theorem q15act_wrong (o hn i m k n : Int) (hr : (sideB o hn && sideB i m) = false) (w : World) :
    Calls Tryz.prog 122 #[Half.val ⟨o, hn, i, m⟩, .int .i64 k, .int .u64 n] w fun e w' => e = .returned (actV (none)) ∧ Below w.heap.size w w' := by
  have H := Lib.hid hr
  clear hr
  go_enter Tryz.func122, Tryz.ntmps122
  go_wp2_with fail
  refine (q15right_any _ _ _ _ _).mono ?_
  rintro e w' ⟨rfl, rfl⟩
  rw [H.out]
  go_wp2_with fail
  exact bodyPost_ret (v := .tuple #[.agg #[.int .i64 0, .int .u64 0, .int .i64 0, .int .u64 0], .int .i64 0, .int .u64 0, .int .i64 1]) (by simp [results, Tryz.results122, go_sem]) rfl ⟨rfl, by repeat (first | exact Below.refl _ _ | assumption | refine Below.drew ?_ | refine Below.alloc ?_ (by first | omega | (simp; omega) | simp) _)⟩

set_option maxHeartbeats 1000000 in
theorem q15act_ask0 (o hn i m : Int) (hr : (sideB o hn && sideB i m) = true) (w : World) :
    Calls Tryz.prog 122 #[Half.val ⟨o, hn, i, m⟩, .int .i64 11, .int .u64 0] w fun e w' => e = .returned (actV (none)) ∧ Below w.heap.size w w' := by
  have H := Lib.hid hr
  clear hr
  go_enter Tryz.func122, Tryz.ntmps122
  go_wp2_with fail
  refine (q15right_any _ _ _ _ _).mono ?_
  rintro e w' ⟨rfl, rfl⟩
  rw [H.out]
  go_wp2_with fail
  exact bodyPost_ret (v := .tuple #[.agg #[.int .i64 0, .int .u64 0, .int .i64 0, .int .u64 0], .int .i64 0, .int .u64 0, .int .i64 1]) (by simp [results, Tryz.results122, go_sem]) rfl ⟨rfl, by repeat (first | exact Below.refl _ _ | assumption | refine Below.drew ?_ | refine Below.alloc ?_ (by first | omega | (simp; omega) | simp) _)⟩

set_option maxHeartbeats 1000000 in
theorem q15act_ask (hn i m n : Int) (hr : (sideB 0 hn && sideB i m) = true) (h0 : n ≠ 0) (w : World) :
    Calls Tryz.prog 122 #[Half.val ⟨0, hn, i, m⟩, .int .i64 11, .int .u64 n] w fun e w' => e = .returned (actV (some (⟨1, n, i, m⟩, 1, n))) ∧ Below w.heap.size w w' := by
  have H := Lib.hid hr
  clear hr
  have e_n : (n == 0) = false := by simp [h0]
  clear h0
  go_enter Tryz.func122, Tryz.ntmps122
  go_wp2_with fail
  refine (q15right_any _ _ _ _ _).mono ?_
  rintro e w' ⟨rfl, rfl⟩
  rw [H.out]
  go_wp2_with fail
  exact bodyPost_ret (v := .tuple #[Half.val ⟨1, n, i, m⟩, .int .i64 1, .int .u64 n, .int .i64 0]) (by simp [results, Tryz.results122, go_sem]) rfl ⟨rfl, by repeat (first | exact Below.refl _ _ | assumption | refine Below.drew ?_ | refine Below.alloc ?_ (by first | omega | (simp; omega) | simp) _)⟩

set_option maxHeartbeats 1000000 in
theorem q15act_ask_no (o hn i m n : Int) (hr : (sideB o hn && sideB i m) = true) (h0 : n ≠ 0) (h1 : o ≠ 0) (w : World) :
    Calls Tryz.prog 122 #[Half.val ⟨o, hn, i, m⟩, .int .i64 11, .int .u64 n] w fun e w' => e = .returned (actV (some (⟨o, hn, i, m⟩, 0, 0))) ∧ Below w.heap.size w w' := by
  have H := Lib.hid hr
  clear hr
  have e_n : (n == 0) = false := by simp [h0]
  have e_o : (o == 0) = false := by simp [h1]
  clear h0 h1
  go_enter Tryz.func122, Tryz.ntmps122
  go_wp2_with fail
  refine (q15right_any _ _ _ _ _).mono ?_
  rintro e w' ⟨rfl, rfl⟩
  rw [H.out]
  go_wp2_with fail
  exact bodyPost_ret (v := .tuple #[Half.val ⟨o, hn, i, m⟩, .int .i64 0, .int .u64 0, .int .i64 0]) (by simp [results, Tryz.results122, go_sem]) rfl ⟨rfl, by repeat (first | exact Below.refl _ _ | assumption | refine Below.drew ?_ | refine Below.alloc ?_ (by first | omega | (simp; omega) | simp) _)⟩

set_option maxHeartbeats 1000000 in
theorem q15act_leave (o hn i m n : Int) (hr : (sideB o hn && sideB i m) = true) (h1 : o ≠ 0) (w : World) :
    Calls Tryz.prog 122 #[Half.val ⟨o, hn, i, m⟩, .int .i64 13, .int .u64 n] w fun e w' => e = .returned (actV (some (⟨0, 0, i, m⟩, 2, hn))) ∧ Below w.heap.size w w' := by
  have H := Lib.hid hr
  clear hr
  have e_o : (o != 0) = true := by simp [h1]
  clear h1
  go_enter Tryz.func122, Tryz.ntmps122
  go_wp2_with fail
  refine (q15right_any _ _ _ _ _).mono ?_
  rintro e w' ⟨rfl, rfl⟩
  rw [H.out]
  go_wp2_with fail
  exact bodyPost_ret (v := .tuple #[Half.val ⟨0, 0, i, m⟩, .int .i64 2, .int .u64 hn, .int .i64 0]) (by simp [results, Tryz.results122, go_sem]) rfl ⟨rfl, by repeat (first | exact Below.refl _ _ | assumption | refine Below.drew ?_ | refine Below.alloc ?_ (by first | omega | (simp; omega) | simp) _)⟩

set_option maxHeartbeats 1000000 in
theorem q15act_leave_no (hn i m n : Int) (hr : (sideB 0 hn && sideB i m) = true) (w : World) :
    Calls Tryz.prog 122 #[Half.val ⟨0, hn, i, m⟩, .int .i64 13, .int .u64 n] w fun e w' => e = .returned (actV (some (⟨0, hn, i, m⟩, 0, 0))) ∧ Below w.heap.size w w' := by
  have H := Lib.hid hr
  clear hr
  go_enter Tryz.func122, Tryz.ntmps122
  go_wp2_with fail
  refine (q15right_any _ _ _ _ _).mono ?_
  rintro e w' ⟨rfl, rfl⟩
  rw [H.out]
  go_wp2_with fail
  exact bodyPost_ret (v := .tuple #[Half.val ⟨0, hn, i, m⟩, .int .i64 0, .int .u64 0, .int .i64 0]) (by simp [results, Tryz.results122, go_sem]) rfl ⟨rfl, by repeat (first | exact Below.refl _ _ | assumption | refine Below.drew ?_ | refine Below.alloc ?_ (by first | omega | (simp; omega) | simp) _)⟩

set_option maxHeartbeats 1000000 in
theorem q15act_grant (o hn m n : Int) (hr : (sideB o hn && sideB 1 m) = true) (w : World) :
    Calls Tryz.prog 122 #[Half.val ⟨o, hn, 1, m⟩, .int .i64 12, .int .u64 n] w fun e w' => e = .returned (actV (some (⟨o, hn, 2, m⟩, 3, m))) ∧ Below w.heap.size w w' := by
  have H := Lib.hid hr
  clear hr
  go_enter Tryz.func122, Tryz.ntmps122
  go_wp2_with fail
  refine (q15right_any _ _ _ _ _).mono ?_
  rintro e w' ⟨rfl, rfl⟩
  rw [H.out]
  go_wp2_with fail
  go_region
  go_wp2_with fail
  exact bodyPost_ret (v := .tuple #[Half.val ⟨o, hn, 2, m⟩, .int .i64 3, .int .u64 m, .int .i64 0]) (by simp [results, Tryz.results122, go_sem]) rfl ⟨rfl, by repeat (first | exact Below.refl _ _ | assumption | refine Below.drew ?_ | refine Below.alloc ?_ (by first | omega | (simp; omega) | simp) _)⟩

set_option maxHeartbeats 1000000 in
theorem q15act_grant_no (o hn i m n : Int) (hr : (sideB o hn && sideB i m) = true) (h1 : i ≠ 1) (w : World) :
    Calls Tryz.prog 122 #[Half.val ⟨o, hn, i, m⟩, .int .i64 12, .int .u64 n] w fun e w' => e = .returned (actV (some (⟨o, hn, i, m⟩, 0, 0))) ∧ Below w.heap.size w w' := by
  have H := Lib.hid hr
  clear hr
  have e_i : (i == 1) = false := by simp [h1]
  clear h1
  go_enter Tryz.func122, Tryz.ntmps122
  go_wp2_with fail
  refine (q15right_any _ _ _ _ _).mono ?_
  rintro e w' ⟨rfl, rfl⟩
  rw [H.out]
  go_wp2_with fail
  exact bodyPost_ret (v := .tuple #[Half.val ⟨o, hn, i, m⟩, .int .i64 0, .int .u64 0, .int .i64 0]) (by simp [results, Tryz.results122, go_sem]) rfl ⟨rfl, by repeat (first | exact Below.refl _ _ | assumption | refine Below.drew ?_ | refine Below.alloc ?_ (by first | omega | (simp; omega) | simp) _)⟩

set_option maxHeartbeats 1000000 in
theorem q15act_deny (o hn i m n : Int) (hr : (sideB o hn && sideB i m) = true) (h1 : i ≠ 0) (w : World) :
    Calls Tryz.prog 122 #[Half.val ⟨o, hn, i, m⟩, .int .i64 14, .int .u64 n] w fun e w' => e = .returned (actV (some (⟨o, hn, 0, 0⟩, 4, m))) ∧ Below w.heap.size w w' := by
  have H := Lib.hid hr
  clear hr
  have e_i : (i != 0) = true := by simp [h1]
  clear h1
  go_enter Tryz.func122, Tryz.ntmps122
  go_wp2_with fail
  refine (q15right_any _ _ _ _ _).mono ?_
  rintro e w' ⟨rfl, rfl⟩
  rw [H.out]
  go_wp2_with fail
  exact bodyPost_ret (v := .tuple #[Half.val ⟨o, hn, 0, 0⟩, .int .i64 4, .int .u64 m, .int .i64 0]) (by simp [results, Tryz.results122, go_sem]) rfl ⟨rfl, by repeat (first | exact Below.refl _ _ | assumption | refine Below.drew ?_ | refine Below.alloc ?_ (by first | omega | (simp; omega) | simp) _)⟩

set_option maxHeartbeats 1000000 in
theorem q15act_deny_no (o hn m n : Int) (hr : (sideB o hn && sideB 0 m) = true) (w : World) :
    Calls Tryz.prog 122 #[Half.val ⟨o, hn, 0, m⟩, .int .i64 14, .int .u64 n] w fun e w' => e = .returned (actV (some (⟨o, hn, 0, m⟩, 0, 0))) ∧ Below w.heap.size w w' := by
  have H := Lib.hid hr
  clear hr
  go_enter Tryz.func122, Tryz.ntmps122
  go_wp2_with fail
  refine (q15right_any _ _ _ _ _).mono ?_
  rintro e w' ⟨rfl, rfl⟩
  rw [H.out]
  go_wp2_with fail
  exact bodyPost_ret (v := .tuple #[Half.val ⟨o, hn, 0, m⟩, .int .i64 0, .int .u64 0, .int .i64 0]) (by simp [results, Tryz.results122, go_sem]) rfl ⟨rfl, by repeat (first | exact Below.refl _ _ | assumption | refine Below.drew ?_ | refine Below.alloc ?_ (by first | omega | (simp; omega) | simp) _)⟩

set_option maxHeartbeats 1000000 in
theorem q15act_low (o hn i m k n : Int) (hr : (sideB o hn && sideB i m) = true) (h1 : decide (k < 11) = true) (w : World) :
    Calls Tryz.prog 122 #[Half.val ⟨o, hn, i, m⟩, .int .i64 k, .int .u64 n] w fun e w' => e = .returned (actV (none)) ∧ Below w.heap.size w w' := by
  have H := Lib.hid hr
  clear hr
  go_enter Tryz.func122, Tryz.ntmps122
  go_wp2_with fail
  refine (q15right_any _ _ _ _ _).mono ?_
  rintro e w' ⟨rfl, rfl⟩
  rw [H.out]
  go_wp2_with fail
  exact bodyPost_ret (v := .tuple #[.agg #[.int .i64 0, .int .u64 0, .int .i64 0, .int .u64 0], .int .i64 0, .int .u64 0, .int .i64 1]) (by simp [results, Tryz.results122, go_sem]) rfl ⟨rfl, by repeat (first | exact Below.refl _ _ | assumption | refine Below.drew ?_ | refine Below.alloc ?_ (by first | omega | (simp; omega) | simp) _)⟩

set_option maxHeartbeats 1000000 in
theorem q15act_high (o hn i m k n : Int) (hr : (sideB o hn && sideB i m) = true) (h0 : decide (k < 11) = false) (h1 : decide (14 < k) = true) (w : World) :
    Calls Tryz.prog 122 #[Half.val ⟨o, hn, i, m⟩, .int .i64 k, .int .u64 n] w fun e w' => e = .returned (actV (none)) ∧ Below w.heap.size w w' := by
  have H := Lib.hid hr
  clear hr
  go_enter Tryz.func122, Tryz.ntmps122
  go_wp2_with fail
  refine (q15right_any _ _ _ _ _).mono ?_
  rintro e w' ⟨rfl, rfl⟩
  rw [H.out]
  go_wp2_with fail
  exact bodyPost_ret (v := .tuple #[.agg #[.int .i64 0, .int .u64 0, .int .i64 0, .int .u64 0], .int .i64 0, .int .u64 0, .int .i64 1]) (by simp [results, Tryz.results122, go_sem]) rfl ⟨rfl, by repeat (first | exact Below.refl _ _ | assumption | refine Below.drew ?_ | refine Below.alloc ?_ (by first | omega | (simp; omega) | simp) _)⟩

theorem q15act_any (h : Half) (k n : Int) (w : World) :
    Calls Tryz.prog 122 #[h.val, .int .i64 k, .int .u64 n] w fun e w' => e = .returned (actV (actS h k n)) ∧ Below w.heap.size w w' := by
  obtain ⟨o, hn, i, m⟩ := h
  unfold actS rightB
  by_cases hr : (sideB o hn && sideB i m) = false
  · rw [if_pos hr]; exact q15act_wrong o hn i m k n hr w
  · rw [if_neg hr]
    replace hr : (sideB o hn && sideB i m) = true := by simpa using hr
    by_cases h11 : k = 11
    · subst h11
      rw [if_pos rfl]
      by_cases hn0 : n = 0
      · subst hn0; exact q15act_ask0 o hn i m hr w
      · rw [if_neg hn0]
        by_cases ho : o = 0
        · subst ho; exact q15act_ask hn i m n hr hn0 w
        · rw [if_neg ho]; exact q15act_ask_no o hn i m n hr hn0 ho w
    · rw [if_neg h11]
      by_cases h13 : k = 13
      · subst h13
        rw [if_pos rfl]
        by_cases ho : o = 0
        · subst ho; exact q15act_leave_no hn i m n hr w
        · rw [if_neg ho]; exact q15act_leave o hn i m n hr ho w
      · rw [if_neg h13]
        by_cases h12 : k = 12
        · subst h12
          rw [if_pos rfl]
          by_cases hi : i = 1
          · subst hi; exact q15act_grant o hn m n hr w
          · rw [if_neg hi]; exact q15act_grant_no o hn i m n hr hi w
        · rw [if_neg h12]
          by_cases h14 : k = 14
          · subst h14
            rw [if_pos rfl]
            by_cases hi : i = 0
            · subst hi; exact q15act_deny_no o hn m n hr w
            · rw [if_neg hi]; exact q15act_deny o hn i m n hr hi w
          · rw [if_neg h14]
            by_cases hk : k < 11
            · exact q15act_low o hn i m k n hr (by simpa using hk) w
            · exact q15act_high o hn i m k n hr (by simpa using hk) (by simp; omega) w

set_option maxHeartbeats 1000000 in
theorem q15hear_wrong (o hn i m k n : Int) (hr : (sideB o hn && sideB i m) = false) (w : World) :
    Calls Tryz.prog 123 #[Half.val ⟨o, hn, i, m⟩, .int .i64 k, .int .u64 n] w fun e w' => e = .returned (hearV (none)) ∧ Below w.heap.size w w' := by
  have H := Lib.hid hr
  clear hr
  go_enter Tryz.func123, Tryz.ntmps123
  go_wp2_with fail
  refine (q15right_any _ _ _ _ _).mono ?_
  rintro e w' ⟨rfl, rfl⟩
  rw [H.out]
  go_wp2_with fail
  exact bodyPost_ret (v := .tuple #[.agg #[.int .i64 0, .int .u64 0, .int .i64 0, .int .u64 0], .int .i64 0, .int .i64 1]) (by simp [results, Tryz.results123, go_sem]) rfl ⟨rfl, by repeat (first | exact Below.refl _ _ | assumption | refine Below.drew ?_ | refine Below.alloc ?_ (by first | omega | (simp; omega) | simp) _)⟩

set_option maxHeartbeats 1000000 in
theorem q15hear_low (o hn i m k n : Int) (hr : (sideB o hn && sideB i m) = true) (h1 : decide (k < 1) = true) (w : World) :
    Calls Tryz.prog 123 #[Half.val ⟨o, hn, i, m⟩, .int .i64 k, .int .u64 n] w fun e w' => e = .returned (hearV (none)) ∧ Below w.heap.size w w' := by
  have H := Lib.hid hr
  clear hr
  go_enter Tryz.func123, Tryz.ntmps123
  go_wp2_with fail
  refine (q15right_any _ _ _ _ _).mono ?_
  rintro e w' ⟨rfl, rfl⟩
  rw [H.out]
  go_wp2_with fail
  exact bodyPost_ret (v := .tuple #[.agg #[.int .i64 0, .int .u64 0, .int .i64 0, .int .u64 0], .int .i64 0, .int .i64 1]) (by simp [results, Tryz.results123, go_sem]) rfl ⟨rfl, by repeat (first | exact Below.refl _ _ | assumption | refine Below.drew ?_ | refine Below.alloc ?_ (by first | omega | (simp; omega) | simp) _)⟩

set_option maxHeartbeats 1000000 in
theorem q15hear_high (o hn i m k n : Int) (hr : (sideB o hn && sideB i m) = true) (h0 : decide (k < 1) = false) (h1 : decide (4 < k) = true) (w : World) :
    Calls Tryz.prog 123 #[Half.val ⟨o, hn, i, m⟩, .int .i64 k, .int .u64 n] w fun e w' => e = .returned (hearV (none)) ∧ Below w.heap.size w w' := by
  have H := Lib.hid hr
  clear hr
  go_enter Tryz.func123, Tryz.ntmps123
  go_wp2_with fail
  refine (q15right_any _ _ _ _ _).mono ?_
  rintro e w' ⟨rfl, rfl⟩
  rw [H.out]
  go_wp2_with fail
  exact bodyPost_ret (v := .tuple #[.agg #[.int .i64 0, .int .u64 0, .int .i64 0, .int .u64 0], .int .i64 0, .int .i64 1]) (by simp [results, Tryz.results123, go_sem]) rfl ⟨rfl, by repeat (first | exact Below.refl _ _ | assumption | refine Below.drew ?_ | refine Below.alloc ?_ (by first | omega | (simp; omega) | simp) _)⟩

set_option maxHeartbeats 1000000 in
theorem q15hear_zero (o hn i m k : Int) (hr : (sideB o hn && sideB i m) = true) (h0 : decide (k < 1) = false) (h1 : decide (4 < k) = false) (w : World) :
    Calls Tryz.prog 123 #[Half.val ⟨o, hn, i, m⟩, .int .i64 k, .int .u64 0] w fun e w' => e = .returned (hearV (none)) ∧ Below w.heap.size w w' := by
  have H := Lib.hid hr
  clear hr
  go_enter Tryz.func123, Tryz.ntmps123
  go_wp2_with fail
  refine (q15right_any _ _ _ _ _).mono ?_
  rintro e w' ⟨rfl, rfl⟩
  rw [H.out]
  go_wp2_with fail
  exact bodyPost_ret (v := .tuple #[.agg #[.int .i64 0, .int .u64 0, .int .i64 0, .int .u64 0], .int .i64 0, .int .i64 1]) (by simp [results, Tryz.results123, go_sem]) rfl ⟨rfl, by repeat (first | exact Below.refl _ _ | assumption | refine Below.drew ?_ | refine Below.alloc ?_ (by first | omega | (simp; omega) | simp) _)⟩

set_option maxHeartbeats 1000000 in
theorem q15hear_ask (o hn i m n : Int) (hr : (sideB o hn && sideB i m) = true) (h0 : n ≠ 0) (w : World) :
    Calls Tryz.prog 123 #[Half.val ⟨o, hn, i, m⟩, .int .i64 1, .int .u64 n] w fun e w' => e = .returned (hearV (some (⟨o, hn, 1, n⟩, 42))) ∧ Below w.heap.size w w' := by
  have H := Lib.hid hr
  clear hr
  have e_n : (n == 0) = false := by simp [h0]
  clear h0
  go_enter Tryz.func123, Tryz.ntmps123
  go_wp2_with fail
  refine (q15right_any _ _ _ _ _).mono ?_
  rintro e w' ⟨rfl, rfl⟩
  rw [H.out]
  go_wp2_with fail
  exact bodyPost_ret (v := .tuple #[Half.val ⟨o, hn, 1, n⟩, .int .i64 42, .int .i64 0]) (by simp [results, Tryz.results123, go_sem]) rfl ⟨rfl, by repeat (first | exact Below.refl _ _ | assumption | refine Below.drew ?_ | refine Below.alloc ?_ (by first | omega | (simp; omega) | simp) _)⟩

set_option maxHeartbeats 1000000 in
theorem q15hear_leave (o hn i n : Int) (hr : (sideB o hn && sideB i n) = true) (h0 : n ≠ 0) (h1 : i ≠ 0) (w : World) :
    Calls Tryz.prog 123 #[Half.val ⟨o, hn, i, n⟩, .int .i64 2, .int .u64 n] w fun e w' => e = .returned (hearV (some (⟨o, hn, 0, 0⟩, 44))) ∧ Below w.heap.size w w' := by
  have H := Lib.hid hr
  clear hr
  have e_n : (n == 0) = false := by simp [h0]
  clear h0
  have e_i : (i != 0) = true := by simp [h1]
  clear h1
  go_enter Tryz.func123, Tryz.ntmps123
  go_wp2_with fail
  refine (q15right_any _ _ _ _ _).mono ?_
  rintro e w' ⟨rfl, rfl⟩
  rw [H.out]
  go_wp2_with fail
  exact bodyPost_ret (v := .tuple #[Half.val ⟨o, hn, 0, 0⟩, .int .i64 44, .int .i64 0]) (by simp [results, Tryz.results123, go_sem]) rfl ⟨rfl, by repeat (first | exact Below.refl _ _ | assumption | refine Below.drew ?_ | refine Below.alloc ?_ (by first | omega | (simp; omega) | simp) _)⟩

set_option maxHeartbeats 1000000 in
theorem q15hear_leave_no (o hn i m n : Int) (hr : (sideB o hn && sideB i m) = true) (h0 : n ≠ 0) (h1 : m ≠ n) (h2 : i ≠ 0) (w : World) :
    Calls Tryz.prog 123 #[Half.val ⟨o, hn, i, m⟩, .int .i64 2, .int .u64 n] w fun e w' => e = .returned (hearV (some (⟨o, hn, i, m⟩, 0))) ∧ Below w.heap.size w w' := by
  have H := Lib.hid hr
  clear hr
  have e_m : (m == n) = false := by simp [h1]
  clear h1
  have e_n : (n == 0) = false := by simp [h0]
  clear h0
  have e_i : (i != 0) = true := by simp [h2]
  clear h2
  go_enter Tryz.func123, Tryz.ntmps123
  go_wp2_with fail
  refine (q15right_any _ _ _ _ _).mono ?_
  rintro e w' ⟨rfl, rfl⟩
  rw [H.out]
  go_wp2_with fail
  exact bodyPost_ret (v := .tuple #[Half.val ⟨o, hn, i, m⟩, .int .i64 0, .int .i64 0]) (by simp [results, Tryz.results123, go_sem]) rfl ⟨rfl, by repeat (first | exact Below.refl _ _ | assumption | refine Below.drew ?_ | refine Below.alloc ?_ (by first | omega | (simp; omega) | simp) _)⟩

set_option maxHeartbeats 1000000 in
theorem q15hear_leave_none (o hn m n : Int) (hr : (sideB o hn && sideB 0 m) = true) (h0 : n ≠ 0) (w : World) :
    Calls Tryz.prog 123 #[Half.val ⟨o, hn, 0, m⟩, .int .i64 2, .int .u64 n] w fun e w' => e = .returned (hearV (some (⟨o, hn, 0, m⟩, 0))) ∧ Below w.heap.size w w' := by
  have H := Lib.hid hr
  clear hr
  have e_n : (n == 0) = false := by simp [h0]
  clear h0
  go_enter Tryz.func123, Tryz.ntmps123
  go_wp2_with fail
  refine (q15right_any _ _ _ _ _).mono ?_
  rintro e w' ⟨rfl, rfl⟩
  rw [H.out]
  go_wp2_with fail
  exact bodyPost_ret (v := .tuple #[Half.val ⟨o, hn, 0, m⟩, .int .i64 0, .int .i64 0]) (by simp [results, Tryz.results123, go_sem]) rfl ⟨rfl, by repeat (first | exact Below.refl _ _ | assumption | refine Below.drew ?_ | refine Below.alloc ?_ (by first | omega | (simp; omega) | simp) _)⟩

set_option maxHeartbeats 1000000 in
theorem q15hear_grant (i m n : Int) (hr : (sideB 1 n && sideB i m) = true) (h0 : n ≠ 0) (w : World) :
    Calls Tryz.prog 123 #[Half.val ⟨1, n, i, m⟩, .int .i64 3, .int .u64 n] w fun e w' => e = .returned (hearV (some (⟨2, n, i, m⟩, 43))) ∧ Below w.heap.size w w' := by
  have H := Lib.hid hr
  clear hr
  have e_n : (n == 0) = false := by simp [h0]
  clear h0
  go_enter Tryz.func123, Tryz.ntmps123
  go_wp2_with fail
  refine (q15right_any _ _ _ _ _).mono ?_
  rintro e w' ⟨rfl, rfl⟩
  rw [H.out]
  go_wp2_with fail
  exact bodyPost_ret (v := .tuple #[Half.val ⟨2, n, i, m⟩, .int .i64 43, .int .i64 0]) (by simp [results, Tryz.results123, go_sem]) rfl ⟨rfl, by repeat (first | exact Below.refl _ _ | assumption | refine Below.drew ?_ | refine Below.alloc ?_ (by first | omega | (simp; omega) | simp) _)⟩

set_option maxHeartbeats 1000000 in
theorem q15hear_grant_no (hn i m n : Int) (hr : (sideB 1 hn && sideB i m) = true) (h0 : n ≠ 0) (h1 : hn ≠ n) (w : World) :
    Calls Tryz.prog 123 #[Half.val ⟨1, hn, i, m⟩, .int .i64 3, .int .u64 n] w fun e w' => e = .returned (hearV (some (⟨1, hn, i, m⟩, 0))) ∧ Below w.heap.size w w' := by
  have H := Lib.hid hr
  clear hr
  have e_m : (hn == n) = false := by simp [h1]
  clear h1
  have e_n : (n == 0) = false := by simp [h0]
  clear h0
  go_enter Tryz.func123, Tryz.ntmps123
  go_wp2_with fail
  refine (q15right_any _ _ _ _ _).mono ?_
  rintro e w' ⟨rfl, rfl⟩
  rw [H.out]
  go_wp2_with fail
  exact bodyPost_ret (v := .tuple #[Half.val ⟨1, hn, i, m⟩, .int .i64 0, .int .i64 0]) (by simp [results, Tryz.results123, go_sem]) rfl ⟨rfl, by repeat (first | exact Below.refl _ _ | assumption | refine Below.drew ?_ | refine Below.alloc ?_ (by first | omega | (simp; omega) | simp) _)⟩

set_option maxHeartbeats 1000000 in
theorem q15hear_grant_out (o hn i m n : Int) (hr : (sideB o hn && sideB i m) = true) (h0 : n ≠ 0) (h1 : o ≠ 1) (w : World) :
    Calls Tryz.prog 123 #[Half.val ⟨o, hn, i, m⟩, .int .i64 3, .int .u64 n] w fun e w' => e = .returned (hearV (some (⟨o, hn, i, m⟩, 0))) ∧ Below w.heap.size w w' := by
  have H := Lib.hid hr
  clear hr
  have e_o : (o == 1) = false := by simp [h1]
  clear h1
  have e_n : (n == 0) = false := by simp [h0]
  clear h0
  go_enter Tryz.func123, Tryz.ntmps123
  go_wp2_with fail
  refine (q15right_any _ _ _ _ _).mono ?_
  rintro e w' ⟨rfl, rfl⟩
  rw [H.out]
  go_wp2_with fail
  exact bodyPost_ret (v := .tuple #[Half.val ⟨o, hn, i, m⟩, .int .i64 0, .int .i64 0]) (by simp [results, Tryz.results123, go_sem]) rfl ⟨rfl, by repeat (first | exact Below.refl _ _ | assumption | refine Below.drew ?_ | refine Below.alloc ?_ (by first | omega | (simp; omega) | simp) _)⟩

set_option maxHeartbeats 1000000 in
theorem q15hear_deny (o i m n : Int) (hr : (sideB o n && sideB i m) = true) (h0 : n ≠ 0) (h1 : o ≠ 0) (w : World) :
    Calls Tryz.prog 123 #[Half.val ⟨o, n, i, m⟩, .int .i64 4, .int .u64 n] w fun e w' => e = .returned (hearV (some (⟨0, 0, i, m⟩, 45))) ∧ Below w.heap.size w w' := by
  have H := Lib.hid hr
  clear hr
  have e_n : (n == 0) = false := by simp [h0]
  clear h0
  have e_o : (o != 0) = true := by simp [h1]
  clear h1
  go_enter Tryz.func123, Tryz.ntmps123
  go_wp2_with fail
  refine (q15right_any _ _ _ _ _).mono ?_
  rintro e w' ⟨rfl, rfl⟩
  rw [H.out]
  go_wp2_with fail
  exact bodyPost_ret (v := .tuple #[Half.val ⟨0, 0, i, m⟩, .int .i64 45, .int .i64 0]) (by simp [results, Tryz.results123, go_sem]) rfl ⟨rfl, by repeat (first | exact Below.refl _ _ | assumption | refine Below.drew ?_ | refine Below.alloc ?_ (by first | omega | (simp; omega) | simp) _)⟩

set_option maxHeartbeats 1000000 in
theorem q15hear_deny_no (o hn i m n : Int) (hr : (sideB o hn && sideB i m) = true) (h0 : n ≠ 0) (h1 : hn ≠ n) (h2 : o ≠ 0) (w : World) :
    Calls Tryz.prog 123 #[Half.val ⟨o, hn, i, m⟩, .int .i64 4, .int .u64 n] w fun e w' => e = .returned (hearV (some (⟨o, hn, i, m⟩, 0))) ∧ Below w.heap.size w w' := by
  have H := Lib.hid hr
  clear hr
  have e_m : (hn == n) = false := by simp [h1]
  clear h1
  have e_n : (n == 0) = false := by simp [h0]
  clear h0
  have e_o : (o != 0) = true := by simp [h2]
  clear h2
  go_enter Tryz.func123, Tryz.ntmps123
  go_wp2_with fail
  refine (q15right_any _ _ _ _ _).mono ?_
  rintro e w' ⟨rfl, rfl⟩
  rw [H.out]
  go_wp2_with fail
  exact bodyPost_ret (v := .tuple #[Half.val ⟨o, hn, i, m⟩, .int .i64 0, .int .i64 0]) (by simp [results, Tryz.results123, go_sem]) rfl ⟨rfl, by repeat (first | exact Below.refl _ _ | assumption | refine Below.drew ?_ | refine Below.alloc ?_ (by first | omega | (simp; omega) | simp) _)⟩

set_option maxHeartbeats 1000000 in
theorem q15hear_deny_none (hn i m n : Int) (hr : (sideB 0 hn && sideB i m) = true) (h0 : n ≠ 0) (w : World) :
    Calls Tryz.prog 123 #[Half.val ⟨0, hn, i, m⟩, .int .i64 4, .int .u64 n] w fun e w' => e = .returned (hearV (some (⟨0, hn, i, m⟩, 0))) ∧ Below w.heap.size w w' := by
  have H := Lib.hid hr
  clear hr
  have e_n : (n == 0) = false := by simp [h0]
  clear h0
  go_enter Tryz.func123, Tryz.ntmps123
  go_wp2_with fail
  refine (q15right_any _ _ _ _ _).mono ?_
  rintro e w' ⟨rfl, rfl⟩
  rw [H.out]
  go_wp2_with fail
  exact bodyPost_ret (v := .tuple #[Half.val ⟨0, hn, i, m⟩, .int .i64 0, .int .i64 0]) (by simp [results, Tryz.results123, go_sem]) rfl ⟨rfl, by repeat (first | exact Below.refl _ _ | assumption | refine Below.drew ?_ | refine Below.alloc ?_ (by first | omega | (simp; omega) | simp) _)⟩

theorem q15side_zero {s n : Int} (h : sideB s n = true) : s = 0 ↔ n = 0 := by
  unfold sideB at h
  simp at h
  have h3 := h.2
  constructor
  · intro hs; subst hs; simpa using h3
  · intro hn; subst hn; simpa using h3

theorem q15hear_any (h : Half) (k n : Int) (w : World) :
    Calls Tryz.prog 123 #[h.val, .int .i64 k, .int .u64 n] w fun e w' => e = .returned (hearV (hearS h k n)) ∧ Below w.heap.size w w' := by
  obtain ⟨o, hn, i, m⟩ := h
  unfold hearS rightB
  by_cases hr : (sideB o hn && sideB i m) = false
  · rw [if_pos hr]; exact q15hear_wrong o hn i m k n hr w
  · rw [if_neg hr]
    replace hr : (sideB o hn && sideB i m) = true := by simpa using hr
    have h2 := hr
    simp only [Bool.and_eq_true] at h2
    have z1 := q15side_zero h2.1
    have z2 := q15side_zero h2.2
    by_cases hk1 : k < 1
    · have e : (if n = 0 then (none : Option (Half × Int)) else if k = 1 then some (⟨o, hn, 1, n⟩, 42) else if k = 2 then (if m = n then some (⟨o, hn, 0, 0⟩, 44) else some (⟨o, hn, i, m⟩, 0)) else if k = 3 then (if o = 1 ∧ hn = n then some (⟨2, hn, i, m⟩, 43) else some (⟨o, hn, i, m⟩, 0)) else if k = 4 then (if hn = n then some (⟨0, 0, i, m⟩, 45) else some (⟨o, hn, i, m⟩, 0)) else none) = none := by
        rw [if_neg (by omega : ¬ k = 1), if_neg (by omega : ¬ k = 2), if_neg (by omega : ¬ k = 3), if_neg (by omega : ¬ k = 4)]; simp
      rw [e]
      exact q15hear_low o hn i m k n hr (by simpa using hk1) w
    by_cases hk4 : 4 < k
    · have e : (if n = 0 then (none : Option (Half × Int)) else if k = 1 then some (⟨o, hn, 1, n⟩, 42) else if k = 2 then (if m = n then some (⟨o, hn, 0, 0⟩, 44) else some (⟨o, hn, i, m⟩, 0)) else if k = 3 then (if o = 1 ∧ hn = n then some (⟨2, hn, i, m⟩, 43) else some (⟨o, hn, i, m⟩, 0)) else if k = 4 then (if hn = n then some (⟨0, 0, i, m⟩, 45) else some (⟨o, hn, i, m⟩, 0)) else none) = none := by
        rw [if_neg (by omega : ¬ k = 1), if_neg (by omega : ¬ k = 2), if_neg (by omega : ¬ k = 3), if_neg (by omega : ¬ k = 4)]; simp
      rw [e]
      exact q15hear_high o hn i m k n hr (by simpa using hk1) (by simpa using hk4) w
    by_cases hn0 : n = 0
    · subst hn0; rw [if_pos rfl]; exact q15hear_zero o hn i m k hr (by simpa using hk1) (by simpa using hk4) w
    · rw [if_neg hn0]
      by_cases h1 : k = 1
      · subst h1; rw [if_pos rfl]; exact q15hear_ask o hn i m n hr hn0 w
      · rw [if_neg h1]
        by_cases h2 : k = 2
        · subst h2
          rw [if_pos rfl]
          by_cases hm : m = n
          · subst hm; rw [if_pos rfl]; exact q15hear_leave o hn i m hr hn0 (fun h => hn0 (z2.1 h)) w
          · rw [if_neg hm]
            by_cases hi : i = 0
            · subst hi; exact q15hear_leave_none o hn m n hr hn0 w
            · exact q15hear_leave_no o hn i m n hr hn0 hm hi w
        · rw [if_neg h2]
          by_cases h3 : k = 3
          · subst h3
            rw [if_pos rfl]
            by_cases ho : o = 1
            · subst ho
              by_cases hm : hn = n
              · subst hm; rw [if_pos ⟨rfl, rfl⟩]; exact q15hear_grant i m hn hr hn0 w
              · rw [if_neg (fun h => hm h.2)]; exact q15hear_grant_no hn i m n hr hn0 hm w
            · rw [if_neg (fun h => ho h.1)]; exact q15hear_grant_out o hn i m n hr hn0 ho w
          · rw [if_neg h3]
            have h4 : k = 4 := by omega
            subst h4
            rw [if_pos rfl]
            by_cases hm : hn = n
            · subst hm; rw [if_pos rfl]; exact q15hear_deny o i m hn hr hn0 (fun h => hn0 (z1.1 h)) w
            · rw [if_neg hm]
              by_cases ho : o = 0
              · subst ho; exact q15hear_deny_none hn i m n hr hn0 w
              · exact q15hear_deny_no o hn i m n hr hn0 hm ho w


end Go.Proofs.YthbjcihdlhkboaaGreatDoor
