/- The two ends of SubsAgree, by what subs.Act and subs.Hear compute. -/
import Derived.Test.YtgaimcdkbknljaaAgree0
import Derived.Test.YtgaimcdkbknljaaA6
namespace Go.Proofs.Ytgaimcdkbknljaa
open Go.RowKit

/-- Two ends, the mails on their way to each, and each one's last number. -/
structure Inv (a b : Half) (qa qb : List (Int × Int)) (na nb : Int) : Prop where
  da : Agree.Dir a.o a.n b.i b.m qb qa na
  db : Agree.Dir b.o b.n a.i a.m qa qb nb
  ka : ∀ l ∈ qa, l.1 = 1 ∨ l.1 = 2 ∨ l.1 = 3 ∨ l.1 = 4
  kb : ∀ l ∈ qb, l.1 = 1 ∨ l.1 = 2 ∨ l.1 = 3 ∨ l.1 = 4

theorem Inv.start : Inv ⟨0, 0, 0, 0⟩ ⟨0, 0, 0, 0⟩ [] [] 0 0 := ⟨Agree.Dir.start, Agree.Dir.start, by simp, by simp⟩
theorem Inv.swap {a b : Half} {qa qb : List (Int × Int)} {na nb : Int} (h : Inv a b qa qb na nb) : Inv b a qb qa nb na := ⟨h.db, h.da, h.kb, h.ka⟩

theorem sideB_of {s n : Int} (h : s = 0 ∨ s = 1 ∨ s = 2) (hz : s = 0 ↔ n = 0) : sideB s n = true := by
  unfold sideB
  by_cases hs : s = 0
  · have hn := hz.1 hs
    subst hs; subst hn; rfl
  · have hn : n ≠ 0 := fun e => hs (hz.2 e)
    have e1 : (s == 0) = false := by simpa using hs
    have e2 : (n == 0) = false := by simpa using hn
    rw [e1, e2]
    simp
    omega

theorem Inv.right {a b : Half} {qa qb : List (Int × Int)} {na nb : Int} (h : Inv a b qa qb na nb) : rightB a = true := by
  unfold rightB
  rw [sideB_of h.da.or h.da.o0, sideB_of h.db.ir h.db.i0]; rfl

theorem kinds_snoc {q : List (Int × Int)} {l : Int × Int} (h : ∀ l ∈ q, l.1 = 1 ∨ l.1 = 2 ∨ l.1 = 3 ∨ l.1 = 4) (hl : l.1 = 1 ∨ l.1 = 2 ∨ l.1 = 3 ∨ l.1 = 4) :
    ∀ x ∈ q ++ [l], x.1 = 1 ∨ x.1 = 2 ∨ x.1 = 3 ∨ x.1 = 4 := by
  intro x hx
  rcases List.mem_append.1 hx with hx | hx
  · exact h x hx
  · simp at hx; subst hx; exact hl

theorem Inv.act {a b : Half} {qa qb : List (Int × Int)} {na nb k : Int} (h : Inv a b qa qb na nb) (hk : k = 11 ∨ k = 13 ∨ k = 12 ∨ k = 14) :
    ∃ (a' : Half) (m n : Int), actS a k (na + 1) = some (a', m, n) ∧ Inv a' b qa (if m = 0 then qb else qb ++ [(m, n)]) (na + 1) nb := by
  have hr := h.right
  have hpos := h.da.pos
  obtain ⟨o, n, i, m⟩ := a
  unfold actS
  rw [if_neg (by rw [hr]; simp)]
  rcases hk with rfl | rfl | rfl | rfl
  · rw [if_pos rfl, if_neg (by omega)]
    by_cases ho : o = 0
    · rw [if_pos ho]
      exact ⟨_, _, _, rfl, h.da.ask, h.db.moreR _ (.inl rfl) (by simp; omega), h.ka, kinds_snoc h.kb (.inl rfl)⟩
    · rw [if_neg ho]
      exact ⟨_, _, _, rfl, h.da.tick, h.db, h.ka, h.kb⟩
  · rw [if_neg (by decide), if_pos rfl]
    by_cases ho : o = 0
    · rw [if_pos ho]
      exact ⟨_, _, _, rfl, h.da.tick, h.db, h.ka, h.kb⟩
    · rw [if_neg ho]
      have hn : n ≠ 0 := fun e => ho (h.da.o0.2 e)
      exact ⟨_, _, _, rfl, (h.da.leave ho).tick, h.db.moreR _ (.inr rfl) hn, h.ka, kinds_snoc h.kb (.inr (.inl rfl))⟩
  · rw [if_neg (by decide), if_neg (by decide), if_pos rfl]
    by_cases hi : i = 1
    · rw [if_pos hi]
      have hi' : i = 1 := hi
      subst hi'
      have hm : m ≠ 0 := fun e => by have := h.db.i0.2 e; simp at this
      exact ⟨_, _, _, rfl, (h.da.moreP (3, m) (.inl rfl) hm).tick, h.db.grant, h.ka, kinds_snoc h.kb (.inr (.inr (.inl rfl)))⟩
    · rw [if_neg hi]
      exact ⟨_, _, _, rfl, h.da.tick, h.db, h.ka, h.kb⟩
  · rw [if_neg (by decide), if_neg (by decide), if_neg (by decide), if_pos rfl]
    by_cases hi : i = 0
    · rw [if_pos hi]
      exact ⟨_, _, _, rfl, h.da.tick, h.db, h.ka, h.kb⟩
    · rw [if_neg hi]
      have hm : m ≠ 0 := fun e => hi (h.db.i0.2 e)
      exact ⟨_, _, _, rfl, (h.da.moreP (4, m) (.inr rfl) hm).tick, h.db.deny hi, h.ka, kinds_snoc h.kb (.inr (.inr (.inr rfl)))⟩

theorem Inv.hear {a b : Half} {qa qb : List (Int × Int)} {na nb : Int} {l : Int × Int} (h : Inv a b (l :: qa) qb na nb) :
    ∃ (a' : Half) (t : Int), hearS a l.1 l.2 = some (a', t) ∧ Inv a' b qa qb na nb := by
  have hr := h.right
  have hz := h.da.rz l (List.mem_cons_self ..)
  have hk := h.ka l (List.mem_cons_self ..)
  have d1 := h.da.hearR
  have d2 := h.db.hearP
  have hka : ∀ l ∈ qa, l.1 = 1 ∨ l.1 = 2 ∨ l.1 = 3 ∨ l.1 = 4 := fun x hx => h.ka x (List.mem_cons_of_mem _ hx)
  obtain ⟨o, n, i, m⟩ := a
  obtain ⟨k, j⟩ := l
  unfold hearS
  rw [if_neg (by rw [hr]; simp), if_neg hz]
  simp only at hk
  rcases hk with rfl | rfl | rfl | rfl
  · rw [if_pos rfl]
    exact ⟨_, _, rfl, d1, d2, hka, h.kb⟩
  · rw [if_neg (by simp), if_pos rfl]
    by_cases hm : m = j
    · rw [if_pos hm]
      simp only [Agree.stepI, hm, if_true] at d2
      exact ⟨_, _, rfl, d1, d2, hka, h.kb⟩
    · rw [if_neg hm]
      simp only [Agree.stepI, hm, if_false] at d2
      exact ⟨_, _, rfl, d1, d2, hka, h.kb⟩
  · rw [if_neg (by simp), if_neg (by simp), if_pos rfl]
    by_cases hm : o = 1 ∧ n = j
    · rw [if_pos hm]
      simp only [Agree.stepO, hm, and_self, if_true] at d1
      exact ⟨_, _, rfl, by show Agree.Dir 2 n b.i b.m qb qa na; rw [hm.2]; exact d1, d2, hka, h.kb⟩
    · rw [if_neg hm]
      simp only [Agree.stepO, hm, if_false] at d1
      exact ⟨_, _, rfl, d1, d2, hka, h.kb⟩
  · rw [if_neg (by simp), if_neg (by simp), if_neg (by simp), if_pos rfl]
    by_cases hm : n = j
    · rw [if_pos hm]
      simp only [Agree.stepO, hm, if_true] at d1
      exact ⟨_, _, rfl, d1, d2, hka, h.kb⟩
    · rw [if_neg hm]
      simp only [Agree.stepO, hm, if_false] at d1
      exact ⟨_, _, rfl, d1, d2, hka, h.kb⟩

end Go.Proofs.Ytgaimcdkbknljaa
