/- RosterPair's hear region: what stands while it comes up (Reg). -/
import Derived.Test.YthbjcihdlhkboaaDoorPm2
import Derived.Test.YthbjcihdlhkboaaDoorReg
namespace Go.Proofs.YthbjcihdlhkboaaDoor
set_option linter.unusedSimpArgs false
set_option linter.unusedVariables false
open Go.RowKit Go.Maps Go.Shelf Go.Lib

def comp (j : Nat) : Value → Value
  | .tuple vs => vs.getD j undef
  | _ => undef
theorem comp0 (x y : Value) : comp 0 (.tuple #[x, y]) = x := rfl
theorem comp1 (x y : Value) : comp 1 (.tuple #[x, y]) = y := rfl

/-- Told of the hear region: M, M': the memory ahead of the call and behind it. -/
structure HearSt (wc wx : World) (M M' : World → Prop) (bl : Nat) (l : Int × Int) (t : Int) (dn ch : Bool) (rs : Nat → Option Value) : Prop where
  size : wc.heap.size ≤ wx.heap.size
  mem : rs 11 = none → M wx
  lb : wx.heap[bl]? = some (.cells #[.int .i64 l.1, .int .u64 l.2] 38)
  al : ∀ u, rs 15 = some u → ∃ b, u = .pointer (some ⟨b, 0, none⟩) ∧ wc.heap.size ≤ b ∧ ∃ x0 x1 x2, wx.heap[b]? = some (.cells #[x0, x1, x2] 40) ∧ ((rs 16).isSome = true → x0 = .int .i64 t ∧ x1 = .bool dn ∧ x2 = .bool ch)
  post : ∀ u, rs 11 = some u → u = .tuple #[.agg #[.int .i64 t, .bool dn, .bool ch], .int .i64 0] ∧ M' wx

theorem HearSt.store {wc wx : World} {M M' : World → Prop} {bl : Nat} {l : Int × Int} {t : Int} {dn ch : Bool} {rs : Nat → Option Value} (hs : HearSt wc wx M M' bl l t dn ch rs) {b : Nat} {x0 x1 x2 : Value}
    (h11 : rs 11 = some (.tuple #[.agg #[.int .i64 t, .bool dn, .bool ch], .int .i64 0])) (h15 : rs 15 = some (.pointer (some ⟨b, 0, none⟩))) (hbw : wc.heap.size ≤ b) (hbx : wx.heap[b]? = some (.cells #[x0, x1, x2] 40))
    (hM : M' (((wx.setCell ⟨b, 0, none⟩ (.int .i64 t)).setCell ⟨b, 1, none⟩ (.bool dn)).setCell ⟨b, 2, none⟩ (.bool ch))) (v : Value) :
    HearSt wc (((wx.setCell ⟨b, 0, none⟩ (.int .i64 t)).setCell ⟨b, 1, none⟩ (.bool dn)).setCell ⟨b, 2, none⟩ (.bool ch)) M M' bl l t dn ch (Reg.upd rs 16 v) := by
  have hne : bl ≠ b := by
    intro e
    have := hs.lb
    rw [e, hbx] at this
    simp at this
  refine ⟨by simpa using hs.size, fun h => ?_, blk_set_other (blk_set_other (blk_set_other hs.lb _ hne) _ hne) _ hne, fun u h => ?_, fun u h => ?_⟩
  · have : rs 11 = none := by simpa [Reg.upd] using h
    rw [h11] at this
    cases this
  · have : rs 15 = some u := by simpa [Reg.upd] using h
    rw [h15] at this
    cases this
    exact ⟨b, rfl, hbw, _, _, _, blk_set_same (blk_set_same (blk_set_same hbx 0 _) 1 _) 2 _, fun _ => ⟨rfl, rfl, rfl⟩⟩
  · have : rs 11 = some u := by simpa [Reg.upd] using h
    rw [h11] at this
    cases this
    exact ⟨rfl, hM⟩
theorem cellsH {w : World} {b : Nat} {x0 x1 x2 : Value} {T : TypeId} (h : w.heap[b]? = some (.cells #[x0, x1, x2] T)) : w.cell? ⟨b, 0, none⟩ = some x0 ∧ w.cell? ⟨b, 1, none⟩ = some x1 ∧ w.cell? ⟨b, 2, none⟩ = some x2 ∧ w.frozen? ⟨b, 0, none⟩ = false ∧ w.frozen? ⟨b, 1, none⟩ = false ∧ w.frozen? ⟨b, 2, none⟩ = false :=
  ⟨blk_cell h 0, blk_cell h 1, blk_cell h 2, blk_frozen h 0, blk_frozen h 1, blk_frozen h 2⟩
end Go.Proofs.YthbjcihdlhkboaaDoor
