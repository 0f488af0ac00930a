/- Slices of several kinds: one stands where another is written; cutting one. Over any program. -/
import Derived.Laws.Slices
import Derived.Test.YthbjcihdlhkboaaGreatDoorQ03
namespace Go.Proofs.YthbjcihdlhkboaaGreatDoor
set_option linter.unusedSimpArgs false
set_option linter.unusedVariables false
open Go.RowKit

/-- A slice of another kind stands where one grows. -/
theorem Seq.grown_ty {w w' : World} {B B' : Nat} {e e' : TypeId} {sz sz' n n' : Nat} {v v' : Value} {xs xs' : List Value} (h : Seq w B e sz v n xs) (h' : Seq w B' e' sz' v' n' xs') (hne : e ≠ e') (hg : w.grownBy w' v'.ownBlock) : Seq w' B e sz v n xs := by
  refine h.grown hg ?_
  cases hv : v.ownBlock with
  | none => exact .inl rfl
  | some k =>
    right
    intro hk
    obtain ⟨c1, h1⟩ := h.block k hv
    obtain ⟨c2, h2⟩ := h'.block k hk.symm
    rw [h1] at h2
    simp at h2
    exact hne h2.2
theorem Seq.set_ty {w : World} {B sz n b : Nat} {e T : TypeId} {v : Value} {xs : List Value} {cs : Array Value} (h : Seq w B e sz v n xs) (hb : w.heap[b]? = some (.cells cs T)) (hne : T ≠ e) (j : Nat) (u : Value) : Seq (w.setCell ⟨b, j, none⟩ u) B e sz v n xs :=
  h.setCell u (fun e1 => by
    obtain ⟨cur, hc⟩ := h.block b e1
    rw [hb] at hc
    simp at hc
    exact hne hc.2)

section
variable {P : Program} {w : World} {base sz n k c : Nat} {e t : TypeId} {A : Option Addr} {xs : List Value}

/-- 'v[:k]'. -/
theorem Seq.cut_h (ht : P.underlying t = some (.slice (P.elem t))) (hs : ∀ w, (sizeOf (P.elem t)).run P w = .ok sz w) (h : Seq w base e sz (.slice A n c) n xs) (hk : k ≤ n) :
    Seq w base e sz (.slice A k c) k (xs.take (k * sz)) ∧ ∀ W, (Instr.slice t (.slice A n c) none (some (.int .i64 (k : Int))) none).run P W = .ok (.slice A k c) W := by
  have hkx : k * sz ≤ xs.length := by rw [h.1]; exact Nat.mul_le_mul_right _ hk
  have hl : (xs.take (k * sz)).length = k * sz := by rw [List.length_take]; omega
  rcases h.2 with ⟨hv, h0⟩ | ⟨g, off, cap, cur, hv, hb, hg, hc, hm, hsz, htk⟩
  · cases hv
    have : k = 0 := by omega
    subst this
    refine ⟨⟨hl, .inl ⟨rfl, rfl⟩⟩, fun W => ?_⟩
    rw [run_slice_h W t _ _ _ ht .i64 _ (by omega) (by omega), hs]
    simp [Result.andThen, sliced]
  · cases hv
    refine ⟨⟨hl, .inr ⟨g, off, _, cur, rfl, hb, hg, by omega, hm, hsz, ?_⟩⟩, fun W => ?_⟩
    · rw [← htk, List.take_take, Nat.min_eq_left (Nat.mul_le_mul_right _ hk)]
    · rw [run_slice_h W t _ _ _ ht .i64 _ (by omega) (by omega), hs]
      simp [Result.andThen, sliced, Addr.add_lit]

/-- 'v[k:]'. -/
theorem Seq.cut_l (ht : P.underlying t = some (.slice (P.elem t))) (hs : ∀ w, (sizeOf (P.elem t)).run P w = .ok sz w) (h : Seq w base e sz (.slice A n c) n xs) (hk : k ≤ n) :
    ∃ A', Seq w base e sz (.slice A' (n - k) (c - k)) (n - k) (xs.drop (k * sz)) ∧ ∀ W, (Instr.slice t (.slice A n c) (some (.int .i64 (k : Int))) none none).run P W = .ok (.slice A' (n - k) (c - k)) W := by
  rcases h.2 with ⟨hv, h0⟩ | ⟨g, off, cap, cur, hv, hb, hg, hc, hm, hsz, htk⟩
  · cases hv
    have : k = 0 := by omega
    subst this
    clear h0
    refine ⟨none, ⟨by rw [List.length_drop, h.1]; simp, .inl ⟨rfl, rfl⟩⟩, fun W => ?_⟩
    rw [run_slice_l W t _ _ _ ht .i64 _ (by omega) (by omega), hs]
    simp [Result.andThen, sliced]
  · cases hv
    refine ⟨some ⟨g, if k = c then off else off + k * sz, none⟩, h.drop hk, fun W => ?_⟩
    rw [run_slice_l W t _ _ _ ht .i64 _ (by omega) (by omega), hs]
    by_cases hkc : k = c
    · subst hkc
      simp [Result.andThen, sliced]
    · have hkc' : ¬ c = k := fun e => hkc e.symm
      simp [Result.andThen, sliced, hkc, hkc', Addr.add_lit]
/-- Both at elements of one cell. -/
theorem Seq.cut_h1 (ht : P.underlying t = some (.slice (P.elem t))) (hs : ∀ w, (sizeOf (P.elem t)).run P w = .ok 1 w) (h : Seq w base e 1 (.slice A n c) n xs) (hk : k ≤ n) :
    Seq w base e 1 (.slice A k c) k (xs.take k) ∧ ∀ W, (Instr.slice t (.slice A n c) none (some (.int .i64 (k : Int))) none).run P W = .ok (.slice A k c) W := by
  have := h.cut_h ht hs hk
  rwa [Nat.mul_one] at this
theorem Seq.cut_l1 (ht : P.underlying t = some (.slice (P.elem t))) (hs : ∀ w, (sizeOf (P.elem t)).run P w = .ok 1 w) (h : Seq w base e 1 (.slice A n c) n xs) (hk : k ≤ n) :
    ∃ A', Seq w base e 1 (.slice A' (n - k) (c - k)) (n - k) (xs.drop k) ∧ ∀ W, (Instr.slice t (.slice A n c) (some (.int .i64 (k : Int))) none none).run P W = .ok (.slice A' (n - k) (c - k)) W := by
  have := h.cut_l ht hs hk
  rwa [Nat.mul_one] at this
end
end Go.Proofs.YthbjcihdlhkboaaGreatDoor
