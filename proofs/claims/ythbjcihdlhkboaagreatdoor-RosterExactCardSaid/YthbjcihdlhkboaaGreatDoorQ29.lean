/- A drawn region whose calls only lay new memory: what each call's result is, told by what stands behind the others. Over any program. -/
import Derived.Test.YthbjcihdlhkboaaGreatDoorQ01
import Derived.Test.YthbjcihdlhkboaaGreatDoorQ18
namespace Go.Proofs.YthbjcihdlhkboaaGreatDoor
set_option linter.unusedSimpArgs false
set_option linter.unusedVariables false
open Go.RowKit
namespace Reg

/-- What is told of a value, and stands where new memory is laid. -/
structure Tells where
  holds : World → Value → Prop
  mono : ∀ {w w' : World} {u : Value}, Below w.heap.size w w' → holds w u → holds w' u
def Tells.eq (v : Value) : Tells := ⟨fun _ u => u = v, fun _ h => h⟩
def Tells.any : Tells := ⟨fun _ _ => True, fun _ h => h⟩

structure Reads (w : World) (T : Nat → Tells) (rs : Nat → Option Value) (wx : World) : Prop where
  below : Below w.heap.size w wx
  res : ∀ i u, rs i = some u → (T i).holds wx u

theorem Reads.start (w : World) (T : Nat → Tells) : Reads w T (fun _ => none) w.drew := ⟨(Below.refl _ _).drew, fun i u h => by cases h⟩
theorem Reads.step {w wx w' : World} {T : Nat → Tells} {rs : Nat → Option Value} {i : Nat} {v : Value} (h : Reads w T rs wx) (hb : Below wx.heap.size wx w') (hp : (T i).holds w' v) : Reads w T (upd rs i v) w' where
  below := h.below.trans (hb.mono h.below.size)
  res := fun j u hu => by
    unfold upd at hu
    split at hu
    · rename_i e
      subst e
      cases hu
      exact hp
    · exact (T j).mono hb (h.res j u hu)
end Reg
end Go.Proofs.YthbjcihdlhkboaaGreatDoor
