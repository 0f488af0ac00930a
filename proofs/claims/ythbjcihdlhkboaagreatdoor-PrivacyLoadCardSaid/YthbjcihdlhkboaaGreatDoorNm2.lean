/- A user's name, prepared: what the package of names answers, by what the library's functions answer. -/
import Derived.Test.YthbjcihdlhkboaaGreatDoorNm1
import Derived.Test.YthbjcihdlhkboaaGreatDoorCu1
import Derived.Test.YthbjcihdlhkboaaGreatDoorPv1
import Derived.Test.YthbjcihdlhkboaaGreatDoorMem
import Derived.Test.YthbjcihdlhkboaaGreatDoorShelf
import Derived.Shelf.Unicode.ValidAny
namespace Go.Proofs.YthbjcihdlhkboaaGreatDoor
set_option linter.unusedSimpArgs false
set_option linter.unusedVariables false
open Go.RowKit Go.Shelf Go.Lib

/-- The library's tables as their initialisers lay them. -/
def Tabs (w : World) : Prop := Lib.Utf8Tabs 0 1 w ∧ ∃ m, w.cell? ⟨2, 0, none⟩ = some (.int .i64 m)
theorem Tabs.later {w w' : World} (h : Tabs w) (hb : Below w.heap.size w w') : Tabs w' := by
  obtain ⟨h1, m, h2⟩ := h
  exact ⟨Utf8Tabs_below h1 hb, m, (hb.cell (World.block_lt_of_cell? w _ h2)).trans h2⟩

theorem cut_any (s sep : ByteArray) (w : World) (hT : Tabs w) (hs : s.size < 4294967281) :
    Gives w 133 #[.string s, .string sep] (.tuple #[.string ⟨(Lib.cut s.data.toList sep.data.toList).1.toArray⟩, .string ⟨(Lib.cut s.data.toList sep.data.toList).2.1.toArray⟩, .bool (Lib.cut s.data.toList sep.data.toList).2.2]) := by
  intro W hW
  obtain ⟨m, hm⟩ := (hT.later hW).2
  refine (Any.strings_Cut { Tryz.laysM145 with } s sep m W hs hm).mono ?_
  rintro e w' ⟨he, n, rfl⟩
  exact ⟨he, below_drewNg W n⟩

theorem cut1_any (s : ByteArray) (c : UInt8) (hs : s.size ≤ 9223372036854775807) (w : World) :
    Gives w 133 #[.string s, .string ⟨#[c]⟩] (.tuple #[.string ⟨(Lib.cut s.data.toList [c]).1.toArray⟩, .string ⟨(Lib.cut s.data.toList [c]).2.1.toArray⟩, .bool (Lib.cut s.data.toList [c]).2.2]) := by
  intro W hW
  refine (Cut_one { Tryz.laysM145 with } s c hs W).mono ?_
  rintro e w' ⟨he, n, rfl⟩
  exact ⟨he, below_drewNg W n⟩

theorem valid_any (s : ByteArray) (w : World) (hT : Tabs w) (hs : s.size ≤ 9223372036854775807) :
    Gives w 131 #[.string s] (.bool (Lib.validD s.data.toList)) := by
  intro W hW
  exact Any.utf8_ValidString Tryz.lays196 s W hs (hT.later hW).1

theorem fold_pays (w : World) : MapGrows Tryz.prog 149 #[] fold w := by
  intro W x hx hb
  exact fold_any (x : Int) (by omega) (by omega) W

theorem fold_range (x : Nat) (hx : x ≤ 1114111) : -2147483648 ≤ fold x ∧ fold x ≤ 2147483647 := by
  unfold fold
  split <;> omega

theorem map_any (s : ByteArray) (w : World) (hT : Tabs w) (hs : s.size < 35184372088832) :
    Calls Tryz.prog 148 #[.func (.func 149) #[] #[], .string s] w fun e w' => e = .returned (.string ⟨(Lib.mapD fold s.data.toList).toArray⟩) ∧ Below w.heap.size w w' :=
  Any.strings_Map_grows Tryz.lays230 Tryz.Builder_Extra_230 149 #[] (enters_of Tryz.func149 (by kernel_rfl) rfl) fold s w hs (fold_pays w) fold_range hT.1

set_option maxHeartbeats 1000000 in
theorem clo_local (B : Nat) (w : World) (hB : B < w.heap.size) (hc : w.cell? ⟨B, 0, none⟩ = some (.func (.func 151) #[] #[])) :
    PredGrows Tryz.prog 182 #[.pointer (some ⟨B, 0, none⟩)] (fun x => !localR x) w := by
  intro W x hx hb
  have hc' := (hb.cell (p := ⟨B, 0, none⟩) hB).trans hc
  have C := Lib.hid (local_any (x : Int) W)
  clear hc hb hB
  show Calls Tryz.prog 182 #[.int .i32 (x : Int), .pointer (some ⟨B, 0, none⟩)] W _
  go_enter Tryz.func182, Tryz.ntmps182
  go_wp2_with fail
  refine C.out.mono ?_
  rintro e w1 ⟨rfl, hb1⟩
  go_wp2_with fail
  go_ret
  exact ⟨rfl, hb1⟩

def allB (p : Int → Bool) (s : ByteArray) : Bool := decide (Lib.idxFunc (fun x => !p x) true s < 0)

set_option maxHeartbeats 1000000 in
theorem all_local (s : ByteArray) (w : World) :
    Calls Tryz.prog 150 #[.string s, .func (.func 151) #[] #[]] w fun e w' => e = .returned (.bool (allB localR s)) ∧ Below w.heap.size w w' := by
  have hmf : ∀ (fn : Fn) (first cap : Array Value) (w : World), (Instr.makeFunc fn first cap).run Tryz.prog w = .ok (.func fn first cap) w := fun _ _ _ _ => rfl
  have hC := Lib.hid (fun W hB hc => Any.strings_IndexFunc_grows Tryz.laysGw15 182 #[.pointer (some ⟨w.heap.size, 0, none⟩)] (enters_of Tryz.func182 (by kernel_rfl) rfl) (fun x => !localR x) s W (clo_local w.heap.size W hB hc))
  unfold allB
  generalize Lib.idxFunc (fun x => !localR x) true s = I at hC ⊢
  go_enter Tryz.func150, Tryz.ntmps150
  go_wp2_with fail
  refine (hC.out _ (by simp) (by simp)).mono ?_
  rintro e w1 ⟨rfl, hb1⟩
  go_wp2_with fail
  go_ret
  exact ⟨rfl, Below.trans (Below.alloc (Below.refl _ _) (Nat.le_refl _) _) (hb1.mono (by simp))⟩

end Go.Proofs.YthbjcihdlhkboaaGreatDoor
