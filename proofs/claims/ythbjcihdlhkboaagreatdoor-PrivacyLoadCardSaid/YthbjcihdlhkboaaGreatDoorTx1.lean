/- A text, cut. -/
import Derived.Test.YthbjcihdlhkboaaGreatDoorWk2
namespace Go.Proofs.YthbjcihdlhkboaaGreatDoor
set_option linter.unusedSimpArgs false
set_option linter.unusedVariables false
open Go.RowKit Go.Maps Go.Shelf Go.Lib

def cutTo (s : ByteArray) (n : Nat) : ByteArray := if n < s.size then s.extract 0 n else s
theorem cutTo_size (s : ByteArray) (n : Nat) : (cutTo s n).size ≤ n := by
  unfold cutTo
  split
  · simp [ByteArray.size_extract]; omega
  · omega

set_option maxHeartbeats 1000000 in
theorem text_any (s : ByteArray) (n : Nat) (hn : n ≤ 1000000) (w : World) :
    Calls Tryz.prog 22 #[.string s, .int .i64 n] w fun e w' => e = .returned (.string (cutTo s n)) ∧ Below w.heap.size w w' := by
  unfold cutTo
  by_cases h : n < s.size
  · rw [if_pos h]
    have t1 : decide ((n : Int) < (s.size : Int)) = true := by simpa using h
    have t2 : (n : Int) < (s.size : Int) := by omega
    have t3 : (0 : Int) ≤ (n : Int) := by omega
    have t4 : n ≤ s.size := by omega
    go_enter Tryz.func22, Tryz.ntmps22
    go_wp2_with fail
    go_ret
    exact ⟨by simp, Below.refl _ _⟩
  · rw [if_neg h]
    have t1 : decide ((n : Int) < (s.size : Int)) = false := by simpa using h
    have t2 : ¬ (n : Int) < (s.size : Int) := by omega
    go_enter Tryz.func22, Tryz.ntmps22
    go_wp2_with fail
    go_ret
    exact ⟨rfl, Below.refl _ _⟩

/-- Texts as cells. -/
def flatS (l : List ByteArray) : List Value := l.map .string

theorem strs_of_seq {w : World} {B : Nat} {v : Value} {l : List ByteArray} (h : Seq w B 9 1 v l.length (flatS l)) (hl : l.length ≤ 9223372036854775807) : Strs w v l := by
  obtain ⟨A, cap, rfl⟩ := h.shape
  refine ⟨⟨A, cap, rfl, fun h0 => ?_⟩, hl⟩
  obtain ⟨g, off, cap', hv, _, hlt, _⟩ := h.form h0
  obtain ⟨rfl, rfl⟩ : A = some ⟨g, off, none⟩ ∧ cap = cap' := by simpa using hv
  refine ⟨g, off, rfl, hlt, fun j hj => ?_⟩
  rw [h.cell j (by omega)]
  simp [flatS, List.getElem?_eq_getElem hj, List.getD_eq_getElem?_getD]

theorem strInfo : (Tryz.prog.info? 9).map (fun i => (i.zero, i.size, i.bytes)) = some (some (.string ⟨#[]⟩), 1, 16) := by kernel_rfl

end Go.Proofs.YthbjcihdlhkboaaGreatDoor
