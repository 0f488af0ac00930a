/- Two rosters that know each other alone: what an act and a mail leave of what binds them. -/
import Derived.Test.YthbjcihdlhkboaaDoorPa0
import Derived.Test.YthbjcihdlhkboaaDoorRoa
namespace Go.Proofs.YthbjcihdlhkboaaDoor
set_option linter.unusedSimpArgs false
set_option linter.unusedVariables false
open Go.RowKit Go.Maps Go.Shelf Go.Lib

/-- Two ends, the mails on their way to each, and each one's last number. -/
structure Inv (a b : Half) (qa qb : List (Int × Int)) (na nb : Int) : Prop where
  da : Agree.Dir a.o a.n b.i b.m qb qa na
  db : Agree.Dir b.o b.n a.i a.m qa qb nb
  ka : ∀ l ∈ qa, l.1 = 1 ∨ l.1 = 2 ∨ l.1 = 3 ∨ l.1 = 4
  kb : ∀ l ∈ qb, l.1 = 1 ∨ l.1 = 2 ∨ l.1 = 3 ∨ l.1 = 4

theorem Inv.start : Inv ⟨0, 0, 0, 0⟩ ⟨0, 0, 0, 0⟩ [] [] 0 0 := ⟨Agree.Dir.start, Agree.Dir.start, by simp, by simp⟩
theorem Inv.swap {a b : Half} {qa qb : List (Int × Int)} {na nb : Int} (h : Inv a b qa qb na nb) : Inv b a qb qa nb na := ⟨h.db, h.da, h.kb, h.ka⟩

theorem sideB_of {s n : Int} (h : s = 0 ∨ s = 1 ∨ s = 2) (hz : s = 0 ↔ n = 0) : sideB s n = true := by
  unfold sideB
  by_cases hs : s = 0
  · have hn := hz.1 hs
    subst hs; subst hn; rfl
  · have hn : n ≠ 0 := fun e => hs (hz.2 e)
    have e1 : (s == 0) = false := by simpa using hs
    have e2 : (n == 0) = false := by simpa using hn
    rw [e1, e2]
    simp
    omega

theorem Inv.right {a b : Half} {qa qb : List (Int × Int)} {na nb : Int} (h : Inv a b qa qb na nb) : rightB a = true := by
  unfold rightB
  rw [sideB_of h.da.or h.da.o0, sideB_of h.db.ir h.db.i0]; rfl

theorem kinds_snoc {q : List (Int × Int)} {l : Int × Int} (h : ∀ l ∈ q, l.1 = 1 ∨ l.1 = 2 ∨ l.1 = 3 ∨ l.1 = 4) (hl : l.1 = 1 ∨ l.1 = 2 ∨ l.1 = 3 ∨ l.1 = 4) :
    ∀ x ∈ q ++ [l], x.1 = 1 ∨ x.1 = 2 ∨ x.1 = 3 ∨ x.1 = 4 := by
  intro x hx
  rcases List.mem_append.1 hx with hx | hx
  · exact h x hx
  · simp at hx; subst hx; exact hl

/-- An act; the last number goes on just where one asks. -/
theorem Inv.act2 {a b : Half} {qa qb : List (Int × Int)} {na nb k : Int} (h : Inv a b qa qb na nb) (hk : 11 ≤ k ∧ k ≤ 14) :
    ∃ (a' : Half) (m n : Int), actS a k (na + 1) = some (a', m, n) ∧ (m ≠ 0 → Inv a' b qa (qb ++ [(m, n)]) (if k = 11 then na + 1 else na) nb) := by
  have hr := h.right
  have hpos := h.da.pos
  obtain ⟨o, n, i, m⟩ := a
  unfold actS
  rw [if_neg (by rw [hr]; simp)]
  have hk4 : k = 11 ∨ k = 13 ∨ k = 12 ∨ k = 14 := by omega
  clear hk
  rcases hk4 with rfl | rfl | rfl | rfl
  · rw [if_pos rfl, if_neg (by omega)]
    by_cases ho : o = 0
    · rw [if_pos ho]
      exact ⟨_, _, _, rfl, fun _ => ⟨h.da.ask, h.db.moreR _ (.inl rfl) (by simp; omega), h.ka, kinds_snoc h.kb (.inl rfl)⟩⟩
    · rw [if_neg ho]
      exact ⟨_, _, _, rfl, fun e => absurd rfl e⟩
  · rw [if_neg (by decide), if_pos rfl]
    by_cases ho : o = 0
    · rw [if_pos ho]
      exact ⟨_, _, _, rfl, fun e => absurd rfl e⟩
    · rw [if_neg ho]
      have hn : n ≠ 0 := fun e => ho (h.da.o0.2 e)
      exact ⟨_, _, _, rfl, fun _ => ⟨h.da.leave ho, h.db.moreR _ (.inr rfl) hn, h.ka, kinds_snoc h.kb (.inr (.inl rfl))⟩⟩
  · rw [if_neg (by decide), if_neg (by decide), if_pos rfl]
    by_cases hi : i = 1
    · rw [if_pos hi]
      have hi' : i = 1 := hi
      subst hi'
      have hm : m ≠ 0 := fun e => by have := h.db.i0.2 e; simp at this
      exact ⟨_, _, _, rfl, fun _ => ⟨h.da.moreP (3, m) (.inl rfl) hm, h.db.grant, h.ka, kinds_snoc h.kb (.inr (.inr (.inl rfl)))⟩⟩
    · rw [if_neg hi]
      exact ⟨_, _, _, rfl, fun e => absurd rfl e⟩
  · rw [if_neg (by decide), if_neg (by decide), if_neg (by decide), if_pos rfl]
    by_cases hi : i = 0
    · rw [if_pos hi]
      exact ⟨_, _, _, rfl, fun e => absurd rfl e⟩
    · rw [if_neg hi]
      have hm : m ≠ 0 := fun e => hi (h.db.i0.2 e)
      exact ⟨_, _, _, rfl, fun _ => ⟨h.da.moreP (4, m) (.inr rfl) hm, h.db.deny hi, h.ka, kinds_snoc h.kb (.inr (.inr (.inr rfl)))⟩⟩

theorem Inv.hear {a b : Half} {qa qb : List (Int × Int)} {na nb : Int} {l : Int × Int} (h : Inv a b (l :: qa) qb na nb) :
    ∃ (a' : Half) (t : Int), hearS a l.1 l.2 = some (a', t) ∧ Inv a' b qa qb na nb := by
  have hr := h.right
  have hz := h.da.rz l (List.mem_cons_self ..)
  have hk := h.ka l (List.mem_cons_self ..)
  have d1 := h.da.hearR
  have d2 := h.db.hearP
  have hka : ∀ l ∈ qa, l.1 = 1 ∨ l.1 = 2 ∨ l.1 = 3 ∨ l.1 = 4 := fun x hx => h.ka x (List.mem_cons_of_mem _ hx)
  obtain ⟨o, n, i, m⟩ := a
  obtain ⟨k, j⟩ := l
  unfold hearS
  rw [if_neg (by rw [hr]; simp), if_neg hz]
  simp only at hk
  rcases hk with rfl | rfl | rfl | rfl
  · rw [if_pos rfl]
    exact ⟨_, _, rfl, d1, d2, hka, h.kb⟩
  · rw [if_neg (by simp), if_pos rfl]
    by_cases hm : m = j
    · rw [if_pos hm]
      simp only [Agree.stepI, hm, if_true] at d2
      exact ⟨_, _, rfl, d1, d2, hka, h.kb⟩
    · rw [if_neg hm]
      simp only [Agree.stepI, hm, if_false] at d2
      exact ⟨_, _, rfl, d1, d2, hka, h.kb⟩
  · rw [if_neg (by simp), if_neg (by simp), if_pos rfl]
    by_cases hm : o = 1 ∧ n = j
    · rw [if_pos hm]
      simp only [Agree.stepO, hm, and_self, if_true] at d1
      exact ⟨_, _, rfl, by show Agree.Dir 2 n b.i b.m qb qa na; rw [hm.2]; exact d1, d2, hka, h.kb⟩
    · rw [if_neg hm]
      simp only [Agree.stepO, hm, if_false] at d1
      exact ⟨_, _, rfl, d1, d2, hka, h.kb⟩
  · rw [if_neg (by simp), if_neg (by simp), if_neg (by simp), if_pos rfl]
    by_cases hm : n = j
    · rw [if_pos hm]
      simp only [Agree.stepO, hm, if_true] at d1
      exact ⟨_, _, rfl, d1, d2, hka, h.kb⟩
    · rw [if_neg hm]
      simp only [Agree.stepO, hm, if_false] at d1
      exact ⟨_, _, rfl, d1, d2, hka, h.kb⟩

/-- The map holds no more than its entries. -/
theorem RoAtK.tight {w : World} {B rb mb n : Nat} {D : DataW Value} {R : RS} {kc : Int} (h : RoAtK w B rb mb n D R kc) : RoAtK w B rb mb R.list.length D R kc :=
  have hown : w.ownsMap Tryd.prog 9 tokR mb R.list.length D := by
    have hs := h.size
    obtain ⟨es, clock, hb, F, _, hD⟩ := h.own
    refine ⟨es, clock, hb, F, ?_, hD⟩
    rw [← hs, hD]
    simp [Maps.size, length_sorted]
  { h with own := hown }

/-- A roster of one contact at the most. -/
def One (R : RS) (c : ByteArray) : Prop := R.list = [] ∨ ∃ e, R.list = [(c, e)] ∧ e.contact = c

theorem One.len {R : RS} {c : ByteArray} (h : One R c) : R.list.length ≤ 1 := by
  rcases h with h | ⟨e, h, _⟩ <;> rw [h] <;> simp
theorem One.set {R : RS} {c : ByteArray} (h : One R c) {e : Ent} (he : e.contact = c) : One (R.set e) c := by
  unfold RS.set RS.put RS.del
  rcases h with h | ⟨e2, h, _⟩
  · split
    · exact .inr ⟨e, by simp [h, he], he⟩
    · exact .inl (by simp [h])
  · split
    · exact .inr ⟨e, by simp [h, he], he⟩
    · exact .inl (by simp [h, he])
theorem One.entry {R : RS} {c : ByteArray} (h : One R c) : (R.entry c).contact = c := by
  unfold RS.entry RS.get
  rcases h with h | ⟨e2, h, he⟩
  · rw [h]; rfl
  · rw [h]; simp [he]
theorem One.set_half {R : RS} {c : ByteArray} {e : Ent} (he : e.contact = c) (hr : e.half.i = 0 → e.kept = false → e.half = ⟨0, 0, 0, 0⟩) : ((R.set e).entry c).half = e.half := by
  unfold RS.set RS.entry
  subst he
  cases hk : (e.kept || !(e.half.i == 0))
  · simp only [Bool.false_eq_true, if_false]
    rw [RS.get_del_same]
    have h1 : e.kept = false := by cases hx : e.kept <;> simp [hx] at hk ⊢
    have h2 : e.half.i = 0 := by rw [h1] at hk; simpa using hk
    rw [hr h2 h1]; rfl
  · simp only [if_true]
    rw [RS.get_put_same]; rfl

end Go.Proofs.YthbjcihdlhkboaaDoor

namespace Go.Proofs.YthbjcihdlhkboaaDoor
set_option linter.unusedSimpArgs false
set_option linter.unusedVariables false
open Go.RowKit Go.Maps Go.Shelf Go.Lib

/-- What is not kept was not asked for. -/
def Mild (R : RS) (c : ByteArray) : Prop := (R.entry c).kept = false → (R.entry c).half.o = 0

structure PairInv (R S : RS) (c d : ByteArray) (qa qb : List (Int × Int)) : Prop where
  oneR : One R c
  oneS : One S d
  mildR : Mild R c
  mildS : Mild S d
  inv : Inv (R.entry c).half (S.entry d).half qa qb R.next S.next

theorem PairInv.swap {R S : RS} {c d : ByteArray} {qa qb : List (Int × Int)} (h : PairInv R S c d qa qb) : PairInv S R d c qb qa := ⟨h.oneS, h.oneR, h.mildS, h.mildR, h.inv.swap⟩
theorem PairInv.start (items asks items2 asks2 : Int) (c d : ByteArray) : PairInv (RS.new items asks) (RS.new items2 asks2) c d [] [] :=
  ⟨.inl rfl, .inl rfl, fun _ => rfl, fun _ => rfl, Inv.start⟩

theorem Inv.zero {a b : Half} {qa qb : List (Int × Int)} {na nb : Int} (h : Inv a b qa qb na nb) (ho : a.o = 0) (hi : a.i = 0) : a = ⟨0, 0, 0, 0⟩ := by
  have h1 := h.da.o0.1 ho
  have h2 := h.db.i0.1 hi
  obtain ⟨o, n, i, m⟩ := a
  simp only at *
  rw [ho, hi, h1, h2]

theorem entry_of_list {R R' : RS} (h : R'.list = R.list) (c : ByteArray) : R'.entry c = R.entry c := by
  unfold RS.entry RS.get; rw [h]
theorem RS.set_congr {R R' : RS} (h : R'.list = R.list) (e : Ent) : (R'.set e).list = (R.set e).list := by
  unfold RS.set RS.put RS.del
  split <;> simp [h]

/-- A roster in which an entry of a half that is right has been laid. -/
theorem laid {R S : RS} {c d : ByteArray} {qa qb : List (Int × Int)} {R1 : RS} (hl : R1.list = R.list) {e : Ent} (hone : One R c) (honeS : One S d) (hms : Mild S d) (he : e.contact = c) (hm : e.kept = false → e.half.o = 0)
    (hi : Inv e.half (S.entry d).half qa qb R1.next S.next) : PairInv (R1.set e) S c d qa qb := by
  have hone1 : One R1 c := by unfold One; rw [hl]; exact hone
  have hh : ((R1.set e).entry c).half = e.half := One.set_half he (fun h1 h2 => hi.zero (hm h2) h1)
  refine ⟨hone1.set he, honeS, ?_, hms, ?_⟩
  · intro hk
    rw [hh]
    refine hm ?_
    cases hx : e.kept
    · rfl
    · exfalso
      have : (R1.set e).entry c = e := by
        unfold RS.set RS.entry
        rw [hx]
        simp only [Bool.true_or, if_true]
        rw [he, RS.get_put_same]; rfl
      rw [this, hx] at hk
      cases hk
  · rw [hh, (RS.set_ver R1 e).2.2.2]
    exact hi

theorem pair_act {R S : RS} {c d : ByteArray} {qa qb : List (Int × Int)} (h : PairInv R S c d qa qb) (hc1 : (localS c).1 = c) (hc2 : (localS c).2 = 0) (k : Int) :
    ((R.actAll c k).2.2.2.2 = 0 ∧ (R.actAll c k).2.1 ≠ 0 → PairInv (R.actAll c k).1 S c d qa (qb ++ [((R.actAll c k).2.1, (R.actAll c k).2.2.1)])) ∧
    (¬ ((R.actAll c k).2.2.2.2 = 0 ∧ (R.actAll c k).2.1 ≠ 0) → PairInv (R.actAll c k).1 S c d qa qb) ∧
    R.next ≤ (R.actAll c k).1.next ∧ (R.actAll c k).1.next ≤ R.next + 1 ∧ R.ver ≤ (R.actAll c k).1.ver ∧ (R.actAll c k).1.ver ≤ R.ver + 1 := by
  by_cases hk : 11 ≤ k ∧ k ≤ 14
  · obtain ⟨a', m, n, ha, hinv⟩ := h.inv.act2 hk
    have hz : actZ (R.entry c).half k (R.next + 1) = (a', m, n) := by unfold actZ; rw [ha]; rfl
    by_cases hm : m = 0
    · have hr := RS.act_none hc2 hc1 rfl hk hz hm
      unfold RS.actAll
      rw [hr]
      exact ⟨fun e => absurd rfl e.2, fun _ => h, Int.le_refl _, by show R.next ≤ R.next + 1; omega, Int.le_refl _, by show R.ver ≤ R.ver + 1; omega⟩
    · by_cases hf : (k = 11 ∨ k = 12) ∧ (R.entry c).kept = false ∧ ¬ (R.kept : Int) < R.items
      · have hr := RS.act_full hc2 hc1 rfl hk hz hm hf.1 hf.2.1 hf.2.2
        unfold RS.actAll
        rw [hr]
        exact ⟨fun e => absurd (show (8 : Int) = 0 from e.1) (by decide), fun _ => h, Int.le_refl _, by show R.next ≤ R.next + 1; omega, Int.le_refl _, by show R.ver ≤ R.ver + 1; omega⟩
      · have hr := RS.act_do hc2 hc1 rfl hk hz hm hf
        have hi := hinv hm
        obtain ⟨R1, hR1⟩ : ∃ R1, (if k = 11 then { R with next := R.next + 1 } else R) = R1 := ⟨_, rfl⟩
        have h1 : R1.list = R.list ∧ R1.next = (if k = 11 then R.next + 1 else R.next) ∧ R1.ver = R.ver := by
          rw [← hR1]
          split <;> exact ⟨rfl, rfl, rfl⟩
        rw [hR1] at hr
        have hmild : ((R.entry c).kept || (k == 11 || k == 12)) = false → a'.o = 0 := by
          intro hkp
          have h2 : (R.entry c).kept = false := by cases hx : (R.entry c).kept <;> rw [hx] at hkp <;> simp at hkp ⊢
          have h3 : k ≠ 11 ∧ k ≠ 12 := by rw [h2] at hkp; simpa using hkp
          have ho := h.mildR h2
          have hs := ha
          unfold actS at hs
          rw [if_neg (by rw [h.inv.right]; simp), if_neg h3.1] at hs
          by_cases h13 : k = 13
          · rw [if_pos h13, if_pos ho] at hs
            simp only [Option.some.injEq, Prod.mk.injEq] at hs
            rw [← hs.1]; exact ho
          · have h14 : k = 14 := by omega
            rw [if_neg h13, if_neg h3.2, if_pos h14] at hs
            by_cases hi0 : (R.entry c).half.i = 0
            · rw [if_pos hi0] at hs
              simp only [Option.some.injEq, Prod.mk.injEq] at hs
              rw [← hs.1]; exact ho
            · rw [if_neg hi0] at hs
              simp only [Option.some.injEq, Prod.mk.injEq] at hs
              rw [← hs.1]; exact ho
        have hP : PairInv (R1.set { R.entry c with kept := (R.entry c).kept || (k == 11 || k == 12), half := a' }) S c d qa (qb ++ [(m, n)]) :=
          laid h1.1 h.oneR h.oneS h.mildS (h.oneR.entry) hmild (by rw [h1.2.1]; exact hi)
        have hn1 := (RS.set_ver R1 { R.entry c with kept := (R.entry c).kept || (k == 11 || k == 12), half := a' })
        generalize R1.set { R.entry c with kept := (R.entry c).kept || (k == 11 || k == 12), half := a' } = R2 at hr hP hn1
        unfold RS.actAll
        rw [hr]
        simp only
        have hP' : PairInv (if ((R.entry c).kept || (k == 11 || k == 12)) = true then { R2 with ver := R2.ver + 1 } else R2) S c d qa (qb ++ [(m, n)]) := by
          split
          · exact ⟨hP.oneR, hP.oneS, hP.mildR, hP.mildS, hP.inv⟩
          · exact hP
        refine ⟨fun _ => hP', fun e => absurd ⟨trivial, hm⟩ e, ?_, ?_, ?_, ?_⟩
        all_goals
          obtain ⟨v1, v2, v3, v4⟩ := hn1
          obtain ⟨l1, l2, l3⟩ := h1
          split
          all_goals
            try simp only
            rw [l2] at v4
            rw [l3] at v1
            first | omega | (split at v4 <;> omega)
  · have hr := RS.act_kind (R := R) hc2 hk
    unfold RS.actAll
    rw [hr]
    exact ⟨fun e => absurd (show (1 : Int) = 0 from e.1) (by decide), fun _ => h, Int.le_refl _, by show R.next ≤ R.next + 1; omega, Int.le_refl _, by show R.ver ≤ R.ver + 1; omega⟩

theorem actS_deny1 (j n : Int) (hj : j ≠ 0) : actS ⟨0, 0, 1, j⟩ 14 n = some (⟨0, 0, 0, 0⟩, 4, j) := by
  have h1 : sideB 0 0 = true := rfl
  have h2 : sideB 1 j = true := sideB_of (.inr (.inl rfl)) (by constructor <;> intro h <;> omega)
  unfold actS rightB
  simp only
  rw [h1, h2, if_neg (by simp), if_neg (by decide), if_neg (by decide), if_neg (by decide)]
  simp

theorem pair_hear {R S : RS} {c d : ByteArray} {l : Int × Int} {qa qb : List (Int × Int)} (h : PairInv R S c d (l :: qa) qb) (hc1 : (localS c).1 = c) (hc2 : (localS c).2 = 0) :
    (R.hearAll c l.1 l.2).2.2.2.2 = 0 ∧
    ((R.hearAll c l.1 l.2).2.2.1 = true → PairInv (R.hearAll c l.1 l.2).1 S c d qa (qb ++ [(4, l.2)])) ∧
    ((R.hearAll c l.1 l.2).2.2.1 = false → PairInv (R.hearAll c l.1 l.2).1 S c d qa qb) ∧
    (R.hearAll c l.1 l.2).1.next = R.next ∧ R.ver ≤ (R.hearAll c l.1 l.2).1.ver ∧ (R.hearAll c l.1 l.2).1.ver ≤ R.ver + 1 := by
  obtain ⟨a', t, ha, hi⟩ := h.inv.hear
  have hz := h.inv.da.rz l (List.mem_cons_self ..)
  by_cases hf : (R.get c).isSome = false ∧ l.1 = 1 ∧ R.asks ≤ (R.list.length : Int) - (R.kept : Int)
  · have hr := RS.hear_full hc2 hc1 rfl ha hf
    have hg : R.get c = none := by simpa using hf.1
    have h0 : (R.entry c).half = ⟨0, 0, 0, 0⟩ := by unfold RS.entry; rw [hg]; rfl
    have ha2 : a' = ⟨0, 0, 1, l.2⟩ := by
      rw [h0, hf.2.1] at ha
      unfold hearS at ha
      rw [if_neg (by decide), if_neg hz, if_pos rfl] at ha
      simp only [Option.some.injEq, Prod.mk.injEq] at ha
      exact ha.1.symm
    subst ha2
    obtain ⟨a3, m3, n3, h3, h4⟩ := hi.act2 (k := 14) (by omega)
    rw [actS_deny1 _ _ hz] at h3
    simp only [Option.some.injEq, Prod.mk.injEq] at h3
    obtain ⟨rfl, rfl, rfl⟩ := h3
    have h5 := h4 (by decide)
    rw [if_neg (by decide)] at h5
    unfold RS.hearAll
    rw [hr]
    exact ⟨rfl, fun _ => ⟨h.oneR, h.oneS, h.mildR, h.mildS, by rw [← h0] at h5; exact h5⟩, fun e => absurd (show true = false from e) (by decide), rfl, Int.le_refl _, by show R.ver ≤ R.ver + 1; omega⟩
  · have hr := RS.hear_do hc2 hc1 rfl ha hf
    have hmild : (R.entry c).kept = false → a'.o = 0 := by
      intro hk
      have ho := h.mildR hk
      have hs := ha
      unfold hearS at hs
      rw [if_neg (by rw [h.inv.right]; simp), if_neg hz] at hs
      by_cases h1 : l.1 = 1
      · rw [if_pos h1] at hs
        simp only [Option.some.injEq, Prod.mk.injEq] at hs
        rw [← hs.1]; exact ho
      rw [if_neg h1] at hs
      by_cases h2 : l.1 = 2
      · rw [if_pos h2] at hs
        by_cases hm : (R.entry c).half.m = l.2
        · rw [if_pos hm] at hs
          simp only [Option.some.injEq, Prod.mk.injEq] at hs
          rw [← hs.1]; exact ho
        · rw [if_neg hm] at hs
          simp only [Option.some.injEq, Prod.mk.injEq] at hs
          rw [← hs.1]; exact ho
      rw [if_neg h2] at hs
      by_cases h3 : l.1 = 3
      · rw [if_pos h3, if_neg (by rw [ho]; intro e; exact absurd e.1 (by decide))] at hs
        simp only [Option.some.injEq, Prod.mk.injEq] at hs
        rw [← hs.1]; exact ho
      rw [if_neg h3] at hs
      by_cases h4 : l.1 = 4
      · rw [if_pos h4] at hs
        by_cases hm : (R.entry c).half.n = l.2
        · rw [if_pos hm] at hs
          simp only [Option.some.injEq, Prod.mk.injEq] at hs
          rw [← hs.1]
        · rw [if_neg hm] at hs
          simp only [Option.some.injEq, Prod.mk.injEq] at hs
          rw [← hs.1]; exact ho
      rw [if_neg h4] at hs
      cases hs
    have hP : PairInv (R.set { R.entry c with half := a' }) S c d qa qb := laid rfl h.oneR h.oneS h.mildS (h.oneR.entry) hmild hi
    have hn1 := (RS.set_ver R { R.entry c with half := a' })
    generalize R.set { R.entry c with half := a' } = R2 at hr hP hn1
    generalize ((R.entry c).kept && !(halfEq a' (R.entry c).half)) = ch at hr
    unfold RS.hearAll
    rw [hr]
    simp only
    have hP' : PairInv (if ch = true then { R2 with ver := R2.ver + 1 } else R2) S c d qa qb := by
      split
      · exact ⟨hP.oneR, hP.oneS, hP.mildR, hP.mildS, hP.inv⟩
      · exact hP
    obtain ⟨v1, v2, v3, v4⟩ := hn1
    refine ⟨trivial, fun e => absurd e (by decide), fun _ => hP', ?_, ?_, ?_⟩
    all_goals
      cases ch
      all_goals simp
      all_goals omega

end Go.Proofs.YthbjcihdlhkboaaDoor
