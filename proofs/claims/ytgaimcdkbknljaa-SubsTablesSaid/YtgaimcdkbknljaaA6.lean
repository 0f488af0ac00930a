import Derived.Test.YtgaimcdkbknljaaA3
namespace Go.Proofs.Ytgaimcdkbknljaa
set_option linter.unusedSimpArgs false
set_option linter.unusedVariables false
open Go.RowKit

set_option maxHeartbeats 1000000 in
theorem wakes_any (w : World) :
    Calls Try.prog 9 #[] w fun e w' => e = .returned (.bool true) ∧ Below w.heap.size w w' := by
  go_enter Try.func9, Try.ntmps9
  go_wp2_with fail
  refine (act_any ⟨0, 0, 0, 0⟩ 11 5 w).mono ?_
  rintro e w1 ⟨rfl, hb⟩
  rw [show actV (actS ⟨0, 0, 0, 0⟩ 11 5) = .tuple #[Half.val ⟨1, 5, 0, 0⟩, .int .i64 1, .int .u64 5, .int .i64 0] from rfl]
  go_wp2_with fail
  refine (sub_any ⟨1, 5, 0, 0⟩ _).mono ?_
  rintro e w2 ⟨rfl, hb2⟩
  rw [show strV (subS ⟨1, 5, 0, 0⟩) = .string ⟨#[110, 111, 110, 101, 44, 97, 115, 107]⟩ from rfl]
  go_wp2_with fail
  go_ret
  exact ⟨rfl, hb.trans ((Below.alloc (Below.refl _ _) (Nat.le_refl _) _).mono (hb.size) |>.trans (hb2.mono (by have := hb.size; simp; omega)))⟩
end Go.Proofs.Ytgaimcdkbknljaa
