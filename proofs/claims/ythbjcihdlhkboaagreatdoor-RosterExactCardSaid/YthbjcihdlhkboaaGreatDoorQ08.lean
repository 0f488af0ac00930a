/- A write into a map of the call's own, and a deletion, as one step of a drawn region. Over any program. -/
import Derived.Maps.OwnSet
import Derived.WalkKit
namespace Go.Proofs.YthbjcihdlhkboaaGreatDoor
set_option linter.unusedSimpArgs false
set_option linter.unusedVariables false
open Go.RowKit Go.Maps
section
variable {H : Type} {P : Program} (w : World) {o : Oper} {a : Act} {K : Act → World → Prop} {Q : Exit → Act → World → Prop} {ops : Array Oper} {E : Prop}

theorem upon_mapUpdate (t : TypeId) (k e : TypeId) (KK : Keyed P k) (ht : P.underlying t = some (.map k e)) (R : Value → Option (DataW H × List MemPlace)) (b n : Nat) (D : DataW H)
    (hown : w.ownsMap P k R b n D) (hn : n < maxLen) (key val : Value) (kl : Lit) (hkey : keyOf P k key = some kl)
    (d : DataW H) (ps : List MemPlace) (hval : R val = some (d, ps))
    (hK : ∀ w', w'.ownsMap P k R b (n + 1) (D.put kl d) → w.grownBy w' (some b) → K (a.put o.dst undef) w') :
    Oper.upon P o a K Q (((Instr.mapUpdate t (.map (some b)) key val).run P w).andThen fun _ w' => Result.ok Next.skip w') := by
  obtain ⟨w', hrun, r1, r2⟩ := hown.update KK ht hn hkey hval
  rw [hrun]
  exact hK w' r1 r2

end
end Go.Proofs.YthbjcihdlhkboaaGreatDoor
