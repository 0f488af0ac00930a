/- What was there stands, but for some blocks. Over any program. -/
import Derived.Test.YthbjcihdlhkboaaGreatDoorQ01
namespace Go.Proofs.YthbjcihdlhkboaaGreatDoor
set_option linter.unusedSimpArgs false
set_option linter.unusedVariables false
open Go.RowKit

/-- What was there, below B, stands, but for the blocks of ks. -/
structure Upd (B : Nat) (ks : Nat → Prop) (w w' : World) : Prop where
  os : w'.os = w.os
  tape : w'.tape = w.tape
  output : w'.output = w.output
  size : w.heap.size ≤ w'.heap.size
  block : ∀ k, k < B → ¬ ks k → w'.heap[k]? = w.heap[k]?

theorem Upd.refl (B : Nat) (ks : Nat → Prop) (w : World) : Upd B ks w w := ⟨rfl, rfl, rfl, Nat.le_refl _, fun _ _ _ => rfl⟩
theorem Upd.trans {B B' : Nat} {ks : Nat → Prop} {w w' w'' : World} (h : Upd B ks w w') (h' : Upd B' ks w' w'') (hB : B ≤ B') : Upd B ks w w'' :=
  ⟨h'.os.trans h.os, h'.tape.trans h.tape, h'.output.trans h.output, Nat.le_trans h.size h'.size, fun k hk hn => (h'.block k (by omega) hn).trans (h.block k hk hn)⟩
theorem Upd.of_below {B B' : Nat} {ks : Nat → Prop} {w w' : World} (h : Below B' w w') (hB : B ≤ B') : Upd B ks w w' := ⟨h.os, h.tape, h.output, h.size, fun k hk _ => h.block k (by omega)⟩
theorem Upd.of_grown {B m : Nat} {ks : Nat → Prop} {w w' : World} (h : w.grownBy w' (some m)) (hm : ks m) (hB : B ≤ w.heap.size) : Upd B ks w w' :=
  ⟨h.os, h.tape, h.output, h.size, fun k hk hn => h.block k (by omega) (by simp; intro e; subst e; exact hn hm)⟩
theorem Upd.setCell {B : Nat} {ks : Nat → Prop} {w w' : World} (h : Upd B ks w w') {a : Addr} (hk : ks a.block ∨ B ≤ a.block) (v : Value) : Upd B ks w (w'.setCell a v) :=
  ⟨h.os, h.tape, h.output, by simpa using h.size, fun k hB hn => (Below.heap_setCell w' a v k (by rintro rfl; rcases hk with hk | hk; exact hn hk; omega)).trans (h.block k hB hn)⟩
theorem Upd.alloc {B : Nat} {ks : Nat → Prop} {w w' : World} (h : Upd B ks w w') (hB : B ≤ w'.heap.size) (o : Obj) : Upd B ks w (w'.alloc o) :=
  h.trans (Upd.of_below (B' := B) ((Below.refl _ _).alloc hB o) (Nat.le_refl _)) (Nat.le_refl _)
theorem Upd.drew {B : Nat} {ks : Nat → Prop} {w w' : World} (h : Upd B ks w w') : Upd B ks w w'.drew := ⟨h.os, h.tape, h.output, h.size, h.block⟩
theorem Upd.below {B C : Nat} {ks : Nat → Prop} {w w' : World} (h : Upd C ks w w') (hk : ∀ k, ks k → B ≤ k) (hB : B ≤ C) : Below B w w' :=
  ⟨h.os, h.tape, h.output, h.size, fun k hlt => h.block k (by omega) (fun e => by have := hk k e; omega)⟩

theorem blk_upd {B b : Nat} {ks : Nat → Prop} {w w' : World} {o : Obj} (h : w.heap[b]? = some o) (hu : Upd B ks w w') (hb : b < B) (hn : ¬ ks b) : w'.heap[b]? = some o := (hu.block b hb hn).trans h
end Go.Proofs.YthbjcihdlhkboaaGreatDoor
