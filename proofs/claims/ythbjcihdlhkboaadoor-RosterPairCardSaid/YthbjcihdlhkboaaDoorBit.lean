/- 'x & 1' of an int64 is x's remainder by 2. -/
import Derived.WalkSmall
import Derived.WalkKit
namespace Go.Proofs.YthbjcihdlhkboaaDoor
open Go.RowKit

theorem wrap_small {r : Nat} (h : r ≤ 1) : IntKind.i64.wrap (r : Int) = r := by
  have : r = 0 ∨ r = 1 := by omega
  rcases this with rfl | rfl <;> rfl

theorem and_one_i64 (x : Int) : bits .and .i64 x 1 = x % 2 := by
  have h : ((BitVec.ofInt 64 x) &&& (BitVec.ofInt 64 1)).toNat = (BitVec.ofInt 64 x).toNat % 2 := by
    rw [BitVec.toNat_and, show (BitVec.ofInt 64 1).toNat = 1 from rfl, Nat.and_one_is_mod]
  have hr : (BitVec.ofInt 64 x).toNat % 2 ≤ 1 := by omega
  have e : bits .and .i64 x 1 = IntKind.i64.wrap ((((BitVec.ofInt 64 x) &&& (BitVec.ofInt 64 1)).toNat : Nat) : Int) := rfl
  rw [e, h, wrap_small hr, BitVec.toNat_ofInt]
  have h2 : (0 : Int) ≤ x % ((2 ^ 64 : Nat) : Int) := Int.emod_nonneg _ (by decide)
  have h3 : ((x % ((2 ^ 64 : Nat) : Int)).toNat : Int) = x % ((2 ^ 64 : Nat) : Int) := Int.toNat_of_nonneg h2
  rw [Int.natCast_emod, h3]
  have : ((2 ^ 64 : Nat) : Int) = 2 * 9223372036854775808 := by decide
  rw [this]
  omega
end Go.Proofs.YthbjcihdlhkboaaDoor
