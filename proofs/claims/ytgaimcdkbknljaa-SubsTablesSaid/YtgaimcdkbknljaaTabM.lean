import Derived.Test.YtgaimcdkbknljaaTab
import Derived.Test.YtgaimcdkbknljaaA6
import Derived.Test.YtgaimcdkbknljaaMem
import Derived.Deep.RegionHeld3
import Derived.Deep.LoopGhost
import Derived.Deep.DeepCutAuto
namespace Go.Proofs.Ytgaimcdkbknljaa
open Go.RowKit
set_option linter.unusedSimpArgs false
set_option linter.unusedVariables false

set_option maxHeartbeats 1000000 in
theorem same_refl4 (o n i m : Int) (w : World) :
    Calls Try.prog 12 #[.agg #[.int .i64 o, .int .u64 n, .int .i64 i, .int .u64 m], .agg #[.int .i64 o, .int .u64 n, .int .i64 i, .int .u64 m]] w fun e w' => e = .returned (.bool true) ∧ Below w.heap.size w w' := by
  go_enter Try.func12, Try.ntmps12
  go_wp2_with fail
  go_ret
  exact ⟨rfl, by repeat (first | exact Below.refl _ _ | assumption | refine Below.drew ?_ | refine Below.alloc ?_ (by first | omega | (simp; omega) | simp) _)⟩

/-- The memory of SubsTables: the half, the names, the four lists. -/
structure TMem (B A C : Nat) (w0 w : World) (h : Half) : Prop where
  below : Below B w0 w
  hs : w.heap[A]? = some (.cells #[.int .i64 h.o, .int .u64 h.n, .int .i64 h.i, .int .u64 h.m] 25)
  ns : w.heap[A + 1]? = some (.cells #[.string ⟨#[78, 111, 110, 101]⟩, .string ⟨#[78, 111, 110, 101, 32, 43, 32, 80, 101, 110, 100, 105, 110, 103, 32, 79, 117, 116]⟩, .string ⟨#[78, 111, 110, 101, 32, 43, 32, 80, 101, 110, 100, 105, 110, 103, 32, 73, 110]⟩, .string ⟨#[78, 111, 110, 101, 32, 43, 32, 80, 101, 110, 100, 105, 110, 103, 32, 79, 117, 116, 43, 73, 110]⟩, .string ⟨#[84, 111]⟩, .string ⟨#[84, 111, 32, 43, 32, 80, 101, 110, 100, 105, 110, 103, 32, 73, 110]⟩, .string ⟨#[70, 114, 111, 109]⟩, .string ⟨#[70, 114, 111, 109, 32, 43, 32, 80, 101, 110, 100, 105, 110, 103, 32, 79, 117, 116]⟩, .string ⟨#[66, 111, 116, 104]⟩] 52)
  ka : w.heap[C]? = some (.cells #[.int .i64 11, .int .i64 13, .int .i64 12, .int .i64 14] 3)
  ko : w.heap[C + 1]? = some (.cells #[.string ⟨#[111, 117, 116, 32, 115, 117, 98, 115, 99, 114, 105, 98, 101]⟩, .string ⟨#[111, 117, 116, 32, 117, 110, 115, 117, 98, 115, 99, 114, 105, 98, 101]⟩, .string ⟨#[111, 117, 116, 32, 115, 117, 98, 115, 99, 114, 105, 98, 101, 100]⟩, .string ⟨#[111, 117, 116, 32, 117, 110, 115, 117, 98, 115, 99, 114, 105, 98, 101, 100]⟩] 9)
  km : w.heap[C + 1 + 1]? = some (.cells #[.int .i64 1, .int .i64 2, .int .i64 3, .int .i64 4] 3)
  ki : w.heap[C + 1 + 1 + 1]? = some (.cells #[.string ⟨#[105, 110, 32, 115, 117, 98, 115, 99, 114, 105, 98, 101]⟩, .string ⟨#[105, 110, 32, 117, 110, 115, 117, 98, 115, 99, 114, 105, 98, 101]⟩, .string ⟨#[105, 110, 32, 115, 117, 98, 115, 99, 114, 105, 98, 101, 100]⟩, .string ⟨#[105, 110, 32, 117, 110, 115, 117, 98, 115, 99, 114, 105, 98, 101, 100]⟩] 9)
  le : B ≤ A
theorem TMem.alloc {B A C : Nat} {w0 w : World} {h : Half} (t : TMem B A C w0 w h) (o : Obj) : TMem B A C w0 (w.alloc o) h :=
  ⟨t.below.alloc (by have := blk_lt t.hs; have := t.le; omega) o, blk_alloc t.hs o, blk_alloc t.ns o, blk_alloc t.ka o, blk_alloc t.ko o, blk_alloc t.km o, blk_alloc t.ki o, t.le⟩
theorem TMem.call {B A C : Nat} {w0 w w' : World} {h : Half} (t : TMem B A C w0 w h) (hb : Below w.heap.size w w') : TMem B A C w0 w' h :=
  ⟨t.below.trans (hb.mono (by have := blk_lt t.hs; have := t.le; omega)), blk_below t.hs hb (blk_lt t.hs), blk_below t.ns hb (blk_lt t.ns), blk_below t.ka hb (blk_lt t.ka), blk_below t.ko hb (blk_lt t.ko), blk_below t.km hb (blk_lt t.km), blk_below t.ki hb (blk_lt t.ki), t.le⟩
theorem TMem.set {B A C : Nat} {w0 w : World} {h : Half} (t : TMem B A C w0 w h) {g : Nat} (h1 : A + 1 < g) (h2 : C + 1 + 1 + 1 < g) (j : Nat) (v : Value) : TMem B A C w0 (w.setCell ⟨g, j, none⟩ v) h :=
  ⟨t.below.setCell (by have := t.le; show B ≤ g; omega) v, blk_set_other t.hs _ (show A ≠ g by omega), blk_set_other t.ns _ (show A + 1 ≠ g by omega), blk_set_other t.ka _ (show C ≠ g by omega), blk_set_other t.ko _ (show C + 1 ≠ g by omega), blk_set_other t.km _ (show C + 1 + 1 ≠ g by omega), blk_set_other t.ki _ (show C + 1 + 1 + 1 ≠ g by omega), t.le⟩
theorem below_undrew {W W' : World} (h : Below W.drew.heap.size W.drew W') : Below W.heap.size W W' := ⟨h.os, h.tape, h.output, h.size, h.block⟩
theorem size_alloc (w : World) (o : Obj) : (w.alloc o).heap.size = w.heap.size + 1 := by simp

end Go.Proofs.Ytgaimcdkbknljaa
