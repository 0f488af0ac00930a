/- The reader of rules: what it answers, by what its callees answer. -/
import Derived.Test.YthbjcihdlhkboaaGreatDoorPv2
namespace Go.Proofs.YthbjcihdlhkboaaGreatDoor
set_option linter.unusedSimpArgs false
set_option linter.unusedVariables false
open Go.RowKit

structure Rule where
  allow : Bool
  inn : Bool
  out : Bool
  by_ : ByteArray
  value : ByteArray

abbrev Rule.val (r : Rule) : Value := .agg #[.bool r.allow, .bool r.inn, .bool r.out, .string r.by_, .string r.value]

def thenRule (al inn out : Bool) (b : ByteArray) : Except Int ByteArray → Except Int Rule
  | .ok v => .ok ⟨al, inn, out, b, v⟩
  | .error c => .error c

/-- What the reader of rules answers: a1, a2, a3: the pieces; f1, f2, f3: was there a blank behind it; r3: the rest. -/
def parseS (a1 : ByteArray) (f1 : Bool) (a2 : ByteArray) (f2 : Bool) (a3 r3 : ByteArray) (f3 valid : Bool) (lv : ByteArray) (le : Int) : Except Int Rule :=
  if f1 && (a1.toList == [97, 108, 108, 111, 119] || a1.toList == [100, 101, 110, 121]) then
    if f2 && (a2.toList == [105, 110] || a2.toList == [111, 117, 116] || a2.toList == [98, 111, 116, 104]) then
      thenRule (a1.toList == [97, 108, 108, 111, 119]) (!(a2.toList == [111, 117, 116])) (!(a2.toList == [105, 110])) a3 (valueS a3 r3 f3 valid lv le)
    else .error 2
  else .error 2

def parseV : Except Int Rule → Value
  | .ok r => .tuple #[r.val, .int .i64 0]
  | .error c => .tuple #[Rule.val ⟨false, false, false, ⟨#[]⟩, ⟨#[]⟩⟩, .int .i64 c]

theorem blk_set5 {w : World} {b : Nat} {x0 x1 x2 x3 x4 : Value} {T : TypeId} (h : w.heap[b]? = some (.cells #[x0, x1, x2, x3, x4] T)) (y0 y1 y2 y3 y4 : Value) :
    (((((w.setCell ⟨b, 0, none⟩ y0).setCell ⟨b, 1, none⟩ y1).setCell ⟨b, 2, none⟩ y2).setCell ⟨b, 3, none⟩ y3).setCell ⟨b, 4, none⟩ y4).heap[b]? = some (.cells #[y0, y1, y2, y3, y4] T) :=
  blk_set_same (blk_set_same (blk_set_same (blk_set_same (blk_set_same h 0 _) 1 _) 2 _) 3 _) 4 _
theorem blk_set5_other {w : World} {b c : Nat} {o : Obj} (h : w.heap[c]? = some o) (hne : c ≠ b) (y0 y1 y2 y3 y4 : Value) :
    (((((w.setCell ⟨b, 0, none⟩ y0).setCell ⟨b, 1, none⟩ y1).setCell ⟨b, 2, none⟩ y2).setCell ⟨b, 3, none⟩ y3).setCell ⟨b, 4, none⟩ y4).heap[c]? = some o := by
  refine blk_set_other ?_ _ hne
  refine blk_set_other ?_ _ hne
  refine blk_set_other ?_ _ hne
  refine blk_set_other ?_ _ hne
  exact blk_set_other h _ hne
theorem below_set5 {w w' : World} {B b : Nat} (h : Below B w w') (hB : B ≤ b) (y0 y1 y2 y3 y4 : Value) :
    Below B w (((((w'.setCell ⟨b, 0, none⟩ y0).setCell ⟨b, 1, none⟩ y1).setCell ⟨b, 2, none⟩ y2).setCell ⟨b, 3, none⟩ y3).setCell ⟨b, 4, none⟩ y4) :=
  (((((h.setCell hB y0).setCell hB y1).setCell hB y2).setCell hB y3).setCell hB y4)
theorem neq_of {s : ByteArray} {l l' : List UInt8} (h : (s.toList == l) = true) (hne : (l == l') = false) : (s.toList == l') = false := by
  have e : s.toList = l := by simpa using h
  rw [e]; exact hne

set_option maxHeartbeats 2000000 in
theorem parse_one_a (s : ByteArray) (a1 r1 : ByteArray) (f1 : Bool) (w : World)
    (hc1 : Gives w 133 #[.string s, .string ⟨#[32]⟩] (.tuple #[.string a1, .string r1, .bool f1]))
    (hf1 : f1 = false) :
    Calls Tryz.prog 89 #[.string s] w fun e w' => e = .returned (parseV (.error 2)) ∧ Below w.heap.size w w' := by
  have HC1 := Lib.hid hc1
  clear hc1
  subst hf1
  have hmf : ∀ (fn : Fn) (first cap : Array Value) (w : World), (Instr.makeFunc fn first cap).run Tryz.prog w = .ok (.func fn first cap) w := fun _ _ _ _ => rfl
  go_enter_defers Tryz.func89, Tryz.ntmps89
  go_wp2_with fail
  refine (HC1.out _ (by repeat (first | exact Below.refl _ _ | refine Below.alloc ?_ (by simp; try omega) _))).mono ?_
  rintro e w1 ⟨rfl, hb1⟩
  have B0 : w1.heap[w.heap.size]? = some (.cells #[.bool false, .bool false, .bool false, .string ⟨#[]⟩, .string ⟨#[]⟩] 138) := blk_below (blk_alloc (blk_new _ _) _) hb1 (by simp; try omega)
  have B1 : w1.heap[w.heap.size + 1]? = some (.cells #[.int .i64 0] 24) := blk_below (blk_new' _ (by simp)) hb1 (by simp; try omega)
  have hB : Below w.heap.size w w1 := Below.trans (by repeat (first | exact Below.refl _ _ | refine Below.alloc ?_ (by simp; try omega) _)) (hb1.mono (by simp; try omega))
  clear hb1
  have H := Lib.hid (And.intro hB (And.intro B0 B1))
  clear hB B0 B1
  go_wp2_with fail
  refine (pmust_no _).mono ?_
  rintro e w' ⟨rfl, rfl⟩
  go_wp2_with fail
  refine leaves_cons (f := 132) (args := #[.pointer (some ⟨w.heap.size, 0, none⟩), .pointer (some ⟨w.heap.size + 1, 0, none⟩)]) (by simp) (by simp [go_sem]) ?_
  refine (parse_d_panics w.heap.size (w.heap.size + 1) 2 [] _ _ _ _ _ _ _ H.out.2.1 H.out.2.2 (by omega)).mono ?_
  rintro e u' w'' ⟨rfl, rfl, hbd, B0, B1⟩
  have hB := H.out.1.trans (hbd _ (Nat.le_refl _) (by omega))
  have y0 : w''.cell? ⟨w.heap.size, 0, none⟩ = some (.bool false) := blk_cell B0 0
  have y1 : w''.cell? ⟨w.heap.size, 1, none⟩ = some (.bool false) := blk_cell B0 1
  have y2 : w''.cell? ⟨w.heap.size, 2, none⟩ = some (.bool false) := blk_cell B0 2
  have y3 : w''.cell? ⟨w.heap.size, 3, none⟩ = some (.string ⟨#[]⟩) := blk_cell B0 3
  have y4 : w''.cell? ⟨w.heap.size, 4, none⟩ = some (.string ⟨#[]⟩) := blk_cell B0 4
  have y5 : w''.cell? ⟨w.heap.size + 1, 0, none⟩ = some (.int .i64 2) := blk_cell B1 0
  simp [Leaves, settle, results, Tryz.results89, go_sem, *]
  rfl

set_option maxHeartbeats 2000000 in
theorem parse_one_b (s : ByteArray) (a1 r1 : ByteArray) (f1 : Bool) (w : World)
    (hc1 : Gives w 133 #[.string s, .string ⟨#[32]⟩] (.tuple #[.string a1, .string r1, .bool f1]))
    (hf1 : f1 = true)
    (ha : (a1.toList == [97, 108, 108, 111, 119]) = false)
    (hd : (a1.toList == [100, 101, 110, 121]) = false) :
    Calls Tryz.prog 89 #[.string s] w fun e w' => e = .returned (parseV (.error 2)) ∧ Below w.heap.size w w' := by
  have HC1 := Lib.hid hc1
  clear hc1
  subst hf1
  have hmf : ∀ (fn : Fn) (first cap : Array Value) (w : World), (Instr.makeFunc fn first cap).run Tryz.prog w = .ok (.func fn first cap) w := fun _ _ _ _ => rfl
  go_enter_defers Tryz.func89, Tryz.ntmps89
  go_wp2_with fail
  refine (HC1.out _ (by repeat (first | exact Below.refl _ _ | refine Below.alloc ?_ (by simp; try omega) _))).mono ?_
  rintro e w1 ⟨rfl, hb1⟩
  have B0 : w1.heap[w.heap.size]? = some (.cells #[.bool false, .bool false, .bool false, .string ⟨#[]⟩, .string ⟨#[]⟩] 138) := blk_below (blk_alloc (blk_new _ _) _) hb1 (by simp; try omega)
  have B1 : w1.heap[w.heap.size + 1]? = some (.cells #[.int .i64 0] 24) := blk_below (blk_new' _ (by simp)) hb1 (by simp; try omega)
  have hB : Below w.heap.size w w1 := Below.trans (by repeat (first | exact Below.refl _ _ | refine Below.alloc ?_ (by simp; try omega) _)) (hb1.mono (by simp; try omega))
  clear hb1
  have H := Lib.hid (And.intro hB (And.intro B0 B1))
  clear hB B0 B1
  go_wp2_with fail
  refine (pmust_no _).mono ?_
  rintro e w' ⟨rfl, rfl⟩
  go_wp2_with fail
  refine leaves_cons (f := 132) (args := #[.pointer (some ⟨w.heap.size, 0, none⟩), .pointer (some ⟨w.heap.size + 1, 0, none⟩)]) (by simp) (by simp [go_sem]) ?_
  refine (parse_d_panics w.heap.size (w.heap.size + 1) 2 [] _ _ _ _ _ _ _ H.out.2.1 H.out.2.2 (by omega)).mono ?_
  rintro e u' w'' ⟨rfl, rfl, hbd, B0, B1⟩
  have hB := H.out.1.trans (hbd _ (Nat.le_refl _) (by omega))
  have y0 : w''.cell? ⟨w.heap.size, 0, none⟩ = some (.bool false) := blk_cell B0 0
  have y1 : w''.cell? ⟨w.heap.size, 1, none⟩ = some (.bool false) := blk_cell B0 1
  have y2 : w''.cell? ⟨w.heap.size, 2, none⟩ = some (.bool false) := blk_cell B0 2
  have y3 : w''.cell? ⟨w.heap.size, 3, none⟩ = some (.string ⟨#[]⟩) := blk_cell B0 3
  have y4 : w''.cell? ⟨w.heap.size, 4, none⟩ = some (.string ⟨#[]⟩) := blk_cell B0 4
  have y5 : w''.cell? ⟨w.heap.size + 1, 0, none⟩ = some (.int .i64 2) := blk_cell B1 0
  simp [Leaves, settle, results, Tryz.results89, go_sem, *]
  rfl

set_option maxHeartbeats 2000000 in
theorem parse_two_allow_a (s : ByteArray) (a1 r1 : ByteArray) (f1 : Bool) (a2 r2 : ByteArray) (f2 : Bool) (w : World)
    (hc1 : Gives w 133 #[.string s, .string ⟨#[32]⟩] (.tuple #[.string a1, .string r1, .bool f1]))
    (hc2 : Gives w 133 #[.string r1, .string ⟨#[32]⟩] (.tuple #[.string a2, .string r2, .bool f2]))
    (hf1 : f1 = true)
    (ha : (a1.toList == [97, 108, 108, 111, 119]) = true)
    (hf2 : f2 = false) :
    Calls Tryz.prog 89 #[.string s] w fun e w' => e = .returned (parseV (.error 2)) ∧ Below w.heap.size w w' := by
  have HC1 := Lib.hid hc1
  have HC2 := Lib.hid hc2
  clear hc1 hc2
  subst hf1
  subst hf2
  have hmf : ∀ (fn : Fn) (first cap : Array Value) (w : World), (Instr.makeFunc fn first cap).run Tryz.prog w = .ok (.func fn first cap) w := fun _ _ _ _ => rfl
  go_enter_defers Tryz.func89, Tryz.ntmps89
  go_wp2_with fail
  refine (HC1.out _ (by repeat (first | exact Below.refl _ _ | refine Below.alloc ?_ (by simp; try omega) _))).mono ?_
  rintro e w1 ⟨rfl, hb1⟩
  have B0 : w1.heap[w.heap.size]? = some (.cells #[.bool false, .bool false, .bool false, .string ⟨#[]⟩, .string ⟨#[]⟩] 138) := blk_below (blk_alloc (blk_new _ _) _) hb1 (by simp; try omega)
  have B1 : w1.heap[w.heap.size + 1]? = some (.cells #[.int .i64 0] 24) := blk_below (blk_new' _ (by simp)) hb1 (by simp; try omega)
  have hB : Below w.heap.size w w1 := Below.trans (by repeat (first | exact Below.refl _ _ | refine Below.alloc ?_ (by simp; try omega) _)) (hb1.mono (by simp; try omega))
  clear hb1
  have H := Lib.hid (And.intro hB (And.intro B0 B1))
  clear hB B0 B1
  go_wp2_with fail
  refine (pmust_yes _).mono ?_
  rintro e w' ⟨rfl, rfl⟩
  go_wp2_with fail
  refine (HC2.out _ H.out.1).mono ?_
  rintro e w2 ⟨rfl, hb⟩
  have H' := Lib.hid (And.intro (H.out.1.trans (hb.mono H.out.1.size)) (And.intro (blk_below H.out.2.1 hb (blk_lt H.out.2.1)) (blk_below H.out.2.2 hb (blk_lt H.out.2.2))))
  clear hb H
  have H := H'
  clear H'
  go_wp2_with fail
  refine (pmust_no _).mono ?_
  rintro e w' ⟨rfl, rfl⟩
  go_wp2_with fail
  refine leaves_cons (f := 132) (args := #[.pointer (some ⟨w.heap.size, 0, none⟩), .pointer (some ⟨w.heap.size + 1, 0, none⟩)]) (by simp) (by simp [go_sem]) ?_
  refine (parse_d_panics w.heap.size (w.heap.size + 1) 2 [] _ _ _ _ _ _ _ H.out.2.1 H.out.2.2 (by omega)).mono ?_
  rintro e u' w'' ⟨rfl, rfl, hbd, B0, B1⟩
  have hB := H.out.1.trans (hbd _ (Nat.le_refl _) (by omega))
  have y0 : w''.cell? ⟨w.heap.size, 0, none⟩ = some (.bool false) := blk_cell B0 0
  have y1 : w''.cell? ⟨w.heap.size, 1, none⟩ = some (.bool false) := blk_cell B0 1
  have y2 : w''.cell? ⟨w.heap.size, 2, none⟩ = some (.bool false) := blk_cell B0 2
  have y3 : w''.cell? ⟨w.heap.size, 3, none⟩ = some (.string ⟨#[]⟩) := blk_cell B0 3
  have y4 : w''.cell? ⟨w.heap.size, 4, none⟩ = some (.string ⟨#[]⟩) := blk_cell B0 4
  have y5 : w''.cell? ⟨w.heap.size + 1, 0, none⟩ = some (.int .i64 2) := blk_cell B1 0
  simp [Leaves, settle, results, Tryz.results89, go_sem, *]
  rfl

set_option maxHeartbeats 2000000 in
theorem parse_two_allow_b (s : ByteArray) (a1 r1 : ByteArray) (f1 : Bool) (a2 r2 : ByteArray) (f2 : Bool) (w : World)
    (hc1 : Gives w 133 #[.string s, .string ⟨#[32]⟩] (.tuple #[.string a1, .string r1, .bool f1]))
    (hc2 : Gives w 133 #[.string r1, .string ⟨#[32]⟩] (.tuple #[.string a2, .string r2, .bool f2]))
    (hf1 : f1 = true)
    (ha : (a1.toList == [97, 108, 108, 111, 119]) = true)
    (hf2 : f2 = true)
    (hi : (a2.toList == [105, 110]) = false)
    (ho : (a2.toList == [111, 117, 116]) = false)
    (hbo : (a2.toList == [98, 111, 116, 104]) = false) :
    Calls Tryz.prog 89 #[.string s] w fun e w' => e = .returned (parseV (.error 2)) ∧ Below w.heap.size w w' := by
  have HC1 := Lib.hid hc1
  have HC2 := Lib.hid hc2
  clear hc1 hc2
  subst hf1
  subst hf2
  have hmf : ∀ (fn : Fn) (first cap : Array Value) (w : World), (Instr.makeFunc fn first cap).run Tryz.prog w = .ok (.func fn first cap) w := fun _ _ _ _ => rfl
  go_enter_defers Tryz.func89, Tryz.ntmps89
  go_wp2_with fail
  refine (HC1.out _ (by repeat (first | exact Below.refl _ _ | refine Below.alloc ?_ (by simp; try omega) _))).mono ?_
  rintro e w1 ⟨rfl, hb1⟩
  have B0 : w1.heap[w.heap.size]? = some (.cells #[.bool false, .bool false, .bool false, .string ⟨#[]⟩, .string ⟨#[]⟩] 138) := blk_below (blk_alloc (blk_new _ _) _) hb1 (by simp; try omega)
  have B1 : w1.heap[w.heap.size + 1]? = some (.cells #[.int .i64 0] 24) := blk_below (blk_new' _ (by simp)) hb1 (by simp; try omega)
  have hB : Below w.heap.size w w1 := Below.trans (by repeat (first | exact Below.refl _ _ | refine Below.alloc ?_ (by simp; try omega) _)) (hb1.mono (by simp; try omega))
  clear hb1
  have H := Lib.hid (And.intro hB (And.intro B0 B1))
  clear hB B0 B1
  go_wp2_with fail
  refine (pmust_yes _).mono ?_
  rintro e w' ⟨rfl, rfl⟩
  go_wp2_with fail
  refine (HC2.out _ H.out.1).mono ?_
  rintro e w2 ⟨rfl, hb⟩
  have H' := Lib.hid (And.intro (H.out.1.trans (hb.mono H.out.1.size)) (And.intro (blk_below H.out.2.1 hb (blk_lt H.out.2.1)) (blk_below H.out.2.2 hb (blk_lt H.out.2.2))))
  clear hb H
  have H := H'
  clear H'
  go_wp2_with fail
  refine (pmust_no _).mono ?_
  rintro e w' ⟨rfl, rfl⟩
  go_wp2_with fail
  refine leaves_cons (f := 132) (args := #[.pointer (some ⟨w.heap.size, 0, none⟩), .pointer (some ⟨w.heap.size + 1, 0, none⟩)]) (by simp) (by simp [go_sem]) ?_
  refine (parse_d_panics w.heap.size (w.heap.size + 1) 2 [] _ _ _ _ _ _ _ H.out.2.1 H.out.2.2 (by omega)).mono ?_
  rintro e u' w'' ⟨rfl, rfl, hbd, B0, B1⟩
  have hB := H.out.1.trans (hbd _ (Nat.le_refl _) (by omega))
  have y0 : w''.cell? ⟨w.heap.size, 0, none⟩ = some (.bool false) := blk_cell B0 0
  have y1 : w''.cell? ⟨w.heap.size, 1, none⟩ = some (.bool false) := blk_cell B0 1
  have y2 : w''.cell? ⟨w.heap.size, 2, none⟩ = some (.bool false) := blk_cell B0 2
  have y3 : w''.cell? ⟨w.heap.size, 3, none⟩ = some (.string ⟨#[]⟩) := blk_cell B0 3
  have y4 : w''.cell? ⟨w.heap.size, 4, none⟩ = some (.string ⟨#[]⟩) := blk_cell B0 4
  have y5 : w''.cell? ⟨w.heap.size + 1, 0, none⟩ = some (.int .i64 2) := blk_cell B1 0
  simp [Leaves, settle, results, Tryz.results89, go_sem, *]
  rfl

set_option maxHeartbeats 2000000 in
theorem parse_three_allow_in (s : ByteArray) (a1 r1 : ByteArray) (f1 : Bool) (a2 r2 : ByteArray) (f2 : Bool) (a3 r3 : ByteArray) (f3 valid : Bool) (lv : ByteArray) (le : Int) (w : World)
    (hc1 : Gives w 133 #[.string s, .string ⟨#[32]⟩] (.tuple #[.string a1, .string r1, .bool f1]))
    (hc2 : Gives w 133 #[.string r1, .string ⟨#[32]⟩] (.tuple #[.string a2, .string r2, .bool f2]))
    (hc3 : Gives w 133 #[.string r2, .string ⟨#[32]⟩] (.tuple #[.string a3, .string r3, .bool f3]))
    (hv : Gives w 131 #[.string r3] (.bool valid)) (hl : Gives w 110 #[.string r3] (.tuple #[.string lv, .int .i64 le]))
    (hf1 : f1 = true)
    (ha : (a1.toList == [97, 108, 108, 111, 119]) = true)
    (hf2 : f2 = true)
    (hi : (a2.toList == [105, 110]) = true) :
    Calls Tryz.prog 89 #[.string s] w fun e w' => e = .returned (parseV (thenRule true true false a3 (valueS a3 r3 f3 valid lv le))) ∧ Below w.heap.size w w' := by
  have HC1 := Lib.hid hc1
  have HC2 := Lib.hid hc2
  have HC3 := Lib.hid hc3
  have HV := Lib.hid hv
  have HL := Lib.hid hl
  clear hc1 hc2 hc3 hv hl
  subst hf1
  subst hf2
  have ho : (a2.toList == [111, 117, 116]) = false := neq_of hi (by decide)
  have hmf : ∀ (fn : Fn) (first cap : Array Value) (w : World), (Instr.makeFunc fn first cap).run Tryz.prog w = .ok (.func fn first cap) w := fun _ _ _ _ => rfl
  go_enter_defers Tryz.func89, Tryz.ntmps89
  go_wp2_with fail
  refine (HC1.out _ (by repeat (first | exact Below.refl _ _ | refine Below.alloc ?_ (by simp; try omega) _))).mono ?_
  rintro e w1 ⟨rfl, hb1⟩
  have B0 : w1.heap[w.heap.size]? = some (.cells #[.bool false, .bool false, .bool false, .string ⟨#[]⟩, .string ⟨#[]⟩] 138) := blk_below (blk_alloc (blk_new _ _) _) hb1 (by simp; try omega)
  have B1 : w1.heap[w.heap.size + 1]? = some (.cells #[.int .i64 0] 24) := blk_below (blk_new' _ (by simp)) hb1 (by simp; try omega)
  have hB : Below w.heap.size w w1 := Below.trans (by repeat (first | exact Below.refl _ _ | refine Below.alloc ?_ (by simp; try omega) _)) (hb1.mono (by simp; try omega))
  clear hb1
  have H := Lib.hid (And.intro hB (And.intro B0 B1))
  clear hB B0 B1
  go_wp2_with fail
  refine (pmust_yes _).mono ?_
  rintro e w' ⟨rfl, rfl⟩
  go_wp2_with fail
  refine (HC2.out _ H.out.1).mono ?_
  rintro e w2 ⟨rfl, hb⟩
  have H' := Lib.hid (And.intro (H.out.1.trans (hb.mono H.out.1.size)) (And.intro (blk_below H.out.2.1 hb (blk_lt H.out.2.1)) (blk_below H.out.2.2 hb (blk_lt H.out.2.2))))
  clear hb H
  have H := H'
  clear H'
  go_wp2_with fail
  refine (pmust_yes _).mono ?_
  rintro e w' ⟨rfl, rfl⟩
  go_wp2_with fail
  refine (HC3.out _ H.out.1).mono ?_
  rintro e w3 ⟨rfl, hb⟩
  have H' := Lib.hid (And.intro (H.out.1.trans (hb.mono H.out.1.size)) (And.intro (blk_below H.out.2.1 hb (blk_lt H.out.2.1)) (blk_below H.out.2.2 hb (blk_lt H.out.2.2))))
  clear hb H
  have H := H'
  clear H'
  have x0 : w3.cell? ⟨w.heap.size, 0, none⟩ = some (.bool false) := blk_cell H.out.2.1 0
  have x1 : w3.cell? ⟨w.heap.size, 1, none⟩ = some (.bool false) := blk_cell H.out.2.1 1
  have x2 : w3.cell? ⟨w.heap.size, 2, none⟩ = some (.bool false) := blk_cell H.out.2.1 2
  have x3 : w3.cell? ⟨w.heap.size, 3, none⟩ = some (.string ⟨#[]⟩) := blk_cell H.out.2.1 3
  have x4 : w3.cell? ⟨w.heap.size, 4, none⟩ = some (.string ⟨#[]⟩) := blk_cell H.out.2.1 4
  have fr0 : w3.frozen? ⟨w.heap.size, 0, none⟩ = false := blk_frozen H.out.2.1 0
  have fr1 : w3.frozen? ⟨w.heap.size, 1, none⟩ = false := blk_frozen H.out.2.1 1
  have fr2 : w3.frozen? ⟨w.heap.size, 2, none⟩ = false := blk_frozen H.out.2.1 2
  have fr3 : w3.frozen? ⟨w.heap.size, 3, none⟩ = false := blk_frozen H.out.2.1 3
  have fr4 : w3.frozen? ⟨w.heap.size, 4, none⟩ = false := blk_frozen H.out.2.1 4
  go_wp2_with fail
  have hB' : Below w.heap.size w (((((w3.setCell ⟨w.heap.size, 0, none⟩ (.bool true)).setCell ⟨w.heap.size, 1, none⟩ (.bool true)).setCell ⟨w.heap.size, 2, none⟩ (.bool false)).setCell ⟨w.heap.size, 3, none⟩ (.string a3)).setCell ⟨w.heap.size, 4, none⟩ (.string ⟨#[]⟩)) := below_set5 H.out.1 (Nat.le_refl _) _ _ _ _ _
  refine (value_any a3 r3 f3 valid lv le _ (HV.out.later hB') (HL.out.later hB')).mono ?_
  rintro e w4 ⟨hout, hb⟩
  have B0 : w4.heap[w.heap.size]? = some (.cells #[.bool true, .bool true, .bool false, .string a3, .string ⟨#[]⟩] 138) := blk_below (blk_set5 H.out.2.1 _ _ _ _ _) hb (blk_lt (blk_set5 H.out.2.1 _ _ _ _ _))
  have B1 : w4.heap[w.heap.size + 1]? = some (.cells #[.int .i64 0] 24) := blk_below (blk_set5_other H.out.2.2 (by omega) _ _ _ _ _) hb (blk_lt (blk_set5_other H.out.2.2 (by omega) _ _ _ _ _))
  have hB := hB'.trans (hb.mono hB'.size)
  clear hb hB' H x0 x1 x2 x3 x4 fr0 fr1 fr2 fr3 fr4
  have H := Lib.hid (And.intro hB (And.intro B0 B1))
  clear hB B0 B1
  cases hval : valueS a3 r3 f3 valid lv le with
  | error c =>
    rw [hval] at hout
    obtain rfl : e = _ := hout
    have HVAL := Lib.hid hval
    clear hval
    go_wp2_with fail
    refine leaves_cons (f := 132) (args := #[.pointer (some ⟨w.heap.size, 0, none⟩), .pointer (some ⟨w.heap.size + 1, 0, none⟩)]) (by simp) (by simp [go_sem]) ?_
    refine (parse_d_panics w.heap.size (w.heap.size + 1) c [] _ _ _ _ _ _ _ H.out.2.1 H.out.2.2 (by omega)).mono ?_
    rintro e u' w'' ⟨rfl, rfl, hbd, B0, B1⟩
    have hB := H.out.1.trans (hbd _ (Nat.le_refl _) (by omega))
    have y0 : w''.cell? ⟨w.heap.size, 0, none⟩ = some (.bool false) := blk_cell B0 0
    have y1 : w''.cell? ⟨w.heap.size, 1, none⟩ = some (.bool false) := blk_cell B0 1
    have y2 : w''.cell? ⟨w.heap.size, 2, none⟩ = some (.bool false) := blk_cell B0 2
    have y3 : w''.cell? ⟨w.heap.size, 3, none⟩ = some (.string ⟨#[]⟩) := blk_cell B0 3
    have y4 : w''.cell? ⟨w.heap.size, 4, none⟩ = some (.string ⟨#[]⟩) := blk_cell B0 4
    have y5 : w''.cell? ⟨w.heap.size + 1, 0, none⟩ = some (.int .i64 c) := blk_cell B1 0
    simp [Leaves, settle, results, Tryz.results89, go_sem, *]
    rw [HVAL.out]; rfl
  | ok v =>
    rw [hval] at hout
    obtain rfl : e = _ := hout
    have HVAL := Lib.hid hval
    clear hval
    have x0 : w4.cell? ⟨w.heap.size, 0, none⟩ = some (.bool true) := blk_cell H.out.2.1 0
    have x1 : w4.cell? ⟨w.heap.size, 1, none⟩ = some (.bool true) := blk_cell H.out.2.1 1
    have x2 : w4.cell? ⟨w.heap.size, 2, none⟩ = some (.bool false) := blk_cell H.out.2.1 2
    have x3 : w4.cell? ⟨w.heap.size, 3, none⟩ = some (.string a3) := blk_cell H.out.2.1 3
    have x4 : w4.cell? ⟨w.heap.size, 4, none⟩ = some (.string ⟨#[]⟩) := blk_cell H.out.2.1 4
    have fr0 : w4.frozen? ⟨w.heap.size, 0, none⟩ = false := blk_frozen H.out.2.1 0
    have fr1 : w4.frozen? ⟨w.heap.size, 1, none⟩ = false := blk_frozen H.out.2.1 1
    have fr2 : w4.frozen? ⟨w.heap.size, 2, none⟩ = false := blk_frozen H.out.2.1 2
    have fr3 : w4.frozen? ⟨w.heap.size, 3, none⟩ = false := blk_frozen H.out.2.1 3
    have fr4 : w4.frozen? ⟨w.heap.size, 4, none⟩ = false := blk_frozen H.out.2.1 4
    have x5 : w4.cell? ⟨w.heap.size + 1, 0, none⟩ = some (.int .i64 0) := blk_cell H.out.2.2 0
    have fr5 : w4.frozen? ⟨w.heap.size + 1, 0, none⟩ = false := blk_frozen H.out.2.2 0
    go_wp2_with fail
    refine leaves_cons (f := 132) (args := #[.pointer (some ⟨w.heap.size, 0, none⟩), .pointer (some ⟨w.heap.size + 1, 0, none⟩)]) (by simp) (by simp [go_sem]) ?_
    refine (parse_d_returns _ _ _).mono ?_
    rintro e u' w'' ⟨rfl, rfl, rfl⟩
    simp [Leaves, settle, results, Tryz.results89, go_sem, *]
    rw [HVAL.out]
    exact ⟨rfl, (below_set5 (H.out.1.setCell (Nat.le_refl _) _) (Nat.le_refl _) _ _ _ _ _).setCell (Nat.le_succ _) _⟩

set_option maxHeartbeats 2000000 in
theorem parse_three_allow_out (s : ByteArray) (a1 r1 : ByteArray) (f1 : Bool) (a2 r2 : ByteArray) (f2 : Bool) (a3 r3 : ByteArray) (f3 valid : Bool) (lv : ByteArray) (le : Int) (w : World)
    (hc1 : Gives w 133 #[.string s, .string ⟨#[32]⟩] (.tuple #[.string a1, .string r1, .bool f1]))
    (hc2 : Gives w 133 #[.string r1, .string ⟨#[32]⟩] (.tuple #[.string a2, .string r2, .bool f2]))
    (hc3 : Gives w 133 #[.string r2, .string ⟨#[32]⟩] (.tuple #[.string a3, .string r3, .bool f3]))
    (hv : Gives w 131 #[.string r3] (.bool valid)) (hl : Gives w 110 #[.string r3] (.tuple #[.string lv, .int .i64 le]))
    (hf1 : f1 = true)
    (ha : (a1.toList == [97, 108, 108, 111, 119]) = true)
    (hf2 : f2 = true)
    (hi : (a2.toList == [105, 110]) = false)
    (ho : (a2.toList == [111, 117, 116]) = true) :
    Calls Tryz.prog 89 #[.string s] w fun e w' => e = .returned (parseV (thenRule true false true a3 (valueS a3 r3 f3 valid lv le))) ∧ Below w.heap.size w w' := by
  have HC1 := Lib.hid hc1
  have HC2 := Lib.hid hc2
  have HC3 := Lib.hid hc3
  have HV := Lib.hid hv
  have HL := Lib.hid hl
  clear hc1 hc2 hc3 hv hl
  subst hf1
  subst hf2
  have hmf : ∀ (fn : Fn) (first cap : Array Value) (w : World), (Instr.makeFunc fn first cap).run Tryz.prog w = .ok (.func fn first cap) w := fun _ _ _ _ => rfl
  go_enter_defers Tryz.func89, Tryz.ntmps89
  go_wp2_with fail
  refine (HC1.out _ (by repeat (first | exact Below.refl _ _ | refine Below.alloc ?_ (by simp; try omega) _))).mono ?_
  rintro e w1 ⟨rfl, hb1⟩
  have B0 : w1.heap[w.heap.size]? = some (.cells #[.bool false, .bool false, .bool false, .string ⟨#[]⟩, .string ⟨#[]⟩] 138) := blk_below (blk_alloc (blk_new _ _) _) hb1 (by simp; try omega)
  have B1 : w1.heap[w.heap.size + 1]? = some (.cells #[.int .i64 0] 24) := blk_below (blk_new' _ (by simp)) hb1 (by simp; try omega)
  have hB : Below w.heap.size w w1 := Below.trans (by repeat (first | exact Below.refl _ _ | refine Below.alloc ?_ (by simp; try omega) _)) (hb1.mono (by simp; try omega))
  clear hb1
  have H := Lib.hid (And.intro hB (And.intro B0 B1))
  clear hB B0 B1
  go_wp2_with fail
  refine (pmust_yes _).mono ?_
  rintro e w' ⟨rfl, rfl⟩
  go_wp2_with fail
  refine (HC2.out _ H.out.1).mono ?_
  rintro e w2 ⟨rfl, hb⟩
  have H' := Lib.hid (And.intro (H.out.1.trans (hb.mono H.out.1.size)) (And.intro (blk_below H.out.2.1 hb (blk_lt H.out.2.1)) (blk_below H.out.2.2 hb (blk_lt H.out.2.2))))
  clear hb H
  have H := H'
  clear H'
  go_wp2_with fail
  refine (pmust_yes _).mono ?_
  rintro e w' ⟨rfl, rfl⟩
  go_wp2_with fail
  refine (HC3.out _ H.out.1).mono ?_
  rintro e w3 ⟨rfl, hb⟩
  have H' := Lib.hid (And.intro (H.out.1.trans (hb.mono H.out.1.size)) (And.intro (blk_below H.out.2.1 hb (blk_lt H.out.2.1)) (blk_below H.out.2.2 hb (blk_lt H.out.2.2))))
  clear hb H
  have H := H'
  clear H'
  have x0 : w3.cell? ⟨w.heap.size, 0, none⟩ = some (.bool false) := blk_cell H.out.2.1 0
  have x1 : w3.cell? ⟨w.heap.size, 1, none⟩ = some (.bool false) := blk_cell H.out.2.1 1
  have x2 : w3.cell? ⟨w.heap.size, 2, none⟩ = some (.bool false) := blk_cell H.out.2.1 2
  have x3 : w3.cell? ⟨w.heap.size, 3, none⟩ = some (.string ⟨#[]⟩) := blk_cell H.out.2.1 3
  have x4 : w3.cell? ⟨w.heap.size, 4, none⟩ = some (.string ⟨#[]⟩) := blk_cell H.out.2.1 4
  have fr0 : w3.frozen? ⟨w.heap.size, 0, none⟩ = false := blk_frozen H.out.2.1 0
  have fr1 : w3.frozen? ⟨w.heap.size, 1, none⟩ = false := blk_frozen H.out.2.1 1
  have fr2 : w3.frozen? ⟨w.heap.size, 2, none⟩ = false := blk_frozen H.out.2.1 2
  have fr3 : w3.frozen? ⟨w.heap.size, 3, none⟩ = false := blk_frozen H.out.2.1 3
  have fr4 : w3.frozen? ⟨w.heap.size, 4, none⟩ = false := blk_frozen H.out.2.1 4
  go_wp2_with fail
  have hB' : Below w.heap.size w (((((w3.setCell ⟨w.heap.size, 0, none⟩ (.bool true)).setCell ⟨w.heap.size, 1, none⟩ (.bool false)).setCell ⟨w.heap.size, 2, none⟩ (.bool true)).setCell ⟨w.heap.size, 3, none⟩ (.string a3)).setCell ⟨w.heap.size, 4, none⟩ (.string ⟨#[]⟩)) := below_set5 H.out.1 (Nat.le_refl _) _ _ _ _ _
  refine (value_any a3 r3 f3 valid lv le _ (HV.out.later hB') (HL.out.later hB')).mono ?_
  rintro e w4 ⟨hout, hb⟩
  have B0 : w4.heap[w.heap.size]? = some (.cells #[.bool true, .bool false, .bool true, .string a3, .string ⟨#[]⟩] 138) := blk_below (blk_set5 H.out.2.1 _ _ _ _ _) hb (blk_lt (blk_set5 H.out.2.1 _ _ _ _ _))
  have B1 : w4.heap[w.heap.size + 1]? = some (.cells #[.int .i64 0] 24) := blk_below (blk_set5_other H.out.2.2 (by omega) _ _ _ _ _) hb (blk_lt (blk_set5_other H.out.2.2 (by omega) _ _ _ _ _))
  have hB := hB'.trans (hb.mono hB'.size)
  clear hb hB' H x0 x1 x2 x3 x4 fr0 fr1 fr2 fr3 fr4
  have H := Lib.hid (And.intro hB (And.intro B0 B1))
  clear hB B0 B1
  cases hval : valueS a3 r3 f3 valid lv le with
  | error c =>
    rw [hval] at hout
    obtain rfl : e = _ := hout
    have HVAL := Lib.hid hval
    clear hval
    go_wp2_with fail
    refine leaves_cons (f := 132) (args := #[.pointer (some ⟨w.heap.size, 0, none⟩), .pointer (some ⟨w.heap.size + 1, 0, none⟩)]) (by simp) (by simp [go_sem]) ?_
    refine (parse_d_panics w.heap.size (w.heap.size + 1) c [] _ _ _ _ _ _ _ H.out.2.1 H.out.2.2 (by omega)).mono ?_
    rintro e u' w'' ⟨rfl, rfl, hbd, B0, B1⟩
    have hB := H.out.1.trans (hbd _ (Nat.le_refl _) (by omega))
    have y0 : w''.cell? ⟨w.heap.size, 0, none⟩ = some (.bool false) := blk_cell B0 0
    have y1 : w''.cell? ⟨w.heap.size, 1, none⟩ = some (.bool false) := blk_cell B0 1
    have y2 : w''.cell? ⟨w.heap.size, 2, none⟩ = some (.bool false) := blk_cell B0 2
    have y3 : w''.cell? ⟨w.heap.size, 3, none⟩ = some (.string ⟨#[]⟩) := blk_cell B0 3
    have y4 : w''.cell? ⟨w.heap.size, 4, none⟩ = some (.string ⟨#[]⟩) := blk_cell B0 4
    have y5 : w''.cell? ⟨w.heap.size + 1, 0, none⟩ = some (.int .i64 c) := blk_cell B1 0
    simp [Leaves, settle, results, Tryz.results89, go_sem, *]
    rw [HVAL.out]; rfl
  | ok v =>
    rw [hval] at hout
    obtain rfl : e = _ := hout
    have HVAL := Lib.hid hval
    clear hval
    have x0 : w4.cell? ⟨w.heap.size, 0, none⟩ = some (.bool true) := blk_cell H.out.2.1 0
    have x1 : w4.cell? ⟨w.heap.size, 1, none⟩ = some (.bool false) := blk_cell H.out.2.1 1
    have x2 : w4.cell? ⟨w.heap.size, 2, none⟩ = some (.bool true) := blk_cell H.out.2.1 2
    have x3 : w4.cell? ⟨w.heap.size, 3, none⟩ = some (.string a3) := blk_cell H.out.2.1 3
    have x4 : w4.cell? ⟨w.heap.size, 4, none⟩ = some (.string ⟨#[]⟩) := blk_cell H.out.2.1 4
    have fr0 : w4.frozen? ⟨w.heap.size, 0, none⟩ = false := blk_frozen H.out.2.1 0
    have fr1 : w4.frozen? ⟨w.heap.size, 1, none⟩ = false := blk_frozen H.out.2.1 1
    have fr2 : w4.frozen? ⟨w.heap.size, 2, none⟩ = false := blk_frozen H.out.2.1 2
    have fr3 : w4.frozen? ⟨w.heap.size, 3, none⟩ = false := blk_frozen H.out.2.1 3
    have fr4 : w4.frozen? ⟨w.heap.size, 4, none⟩ = false := blk_frozen H.out.2.1 4
    have x5 : w4.cell? ⟨w.heap.size + 1, 0, none⟩ = some (.int .i64 0) := blk_cell H.out.2.2 0
    have fr5 : w4.frozen? ⟨w.heap.size + 1, 0, none⟩ = false := blk_frozen H.out.2.2 0
    go_wp2_with fail
    refine leaves_cons (f := 132) (args := #[.pointer (some ⟨w.heap.size, 0, none⟩), .pointer (some ⟨w.heap.size + 1, 0, none⟩)]) (by simp) (by simp [go_sem]) ?_
    refine (parse_d_returns _ _ _).mono ?_
    rintro e u' w'' ⟨rfl, rfl, rfl⟩
    simp [Leaves, settle, results, Tryz.results89, go_sem, *]
    rw [HVAL.out]
    exact ⟨rfl, (below_set5 (H.out.1.setCell (Nat.le_refl _) _) (Nat.le_refl _) _ _ _ _ _).setCell (Nat.le_succ _) _⟩

set_option maxHeartbeats 2000000 in
theorem parse_three_allow_both (s : ByteArray) (a1 r1 : ByteArray) (f1 : Bool) (a2 r2 : ByteArray) (f2 : Bool) (a3 r3 : ByteArray) (f3 valid : Bool) (lv : ByteArray) (le : Int) (w : World)
    (hc1 : Gives w 133 #[.string s, .string ⟨#[32]⟩] (.tuple #[.string a1, .string r1, .bool f1]))
    (hc2 : Gives w 133 #[.string r1, .string ⟨#[32]⟩] (.tuple #[.string a2, .string r2, .bool f2]))
    (hc3 : Gives w 133 #[.string r2, .string ⟨#[32]⟩] (.tuple #[.string a3, .string r3, .bool f3]))
    (hv : Gives w 131 #[.string r3] (.bool valid)) (hl : Gives w 110 #[.string r3] (.tuple #[.string lv, .int .i64 le]))
    (hf1 : f1 = true)
    (ha : (a1.toList == [97, 108, 108, 111, 119]) = true)
    (hf2 : f2 = true)
    (hi : (a2.toList == [105, 110]) = false)
    (ho : (a2.toList == [111, 117, 116]) = false)
    (hbo : (a2.toList == [98, 111, 116, 104]) = true) :
    Calls Tryz.prog 89 #[.string s] w fun e w' => e = .returned (parseV (thenRule true true true a3 (valueS a3 r3 f3 valid lv le))) ∧ Below w.heap.size w w' := by
  have HC1 := Lib.hid hc1
  have HC2 := Lib.hid hc2
  have HC3 := Lib.hid hc3
  have HV := Lib.hid hv
  have HL := Lib.hid hl
  clear hc1 hc2 hc3 hv hl
  subst hf1
  subst hf2
  have hmf : ∀ (fn : Fn) (first cap : Array Value) (w : World), (Instr.makeFunc fn first cap).run Tryz.prog w = .ok (.func fn first cap) w := fun _ _ _ _ => rfl
  go_enter_defers Tryz.func89, Tryz.ntmps89
  go_wp2_with fail
  refine (HC1.out _ (by repeat (first | exact Below.refl _ _ | refine Below.alloc ?_ (by simp; try omega) _))).mono ?_
  rintro e w1 ⟨rfl, hb1⟩
  have B0 : w1.heap[w.heap.size]? = some (.cells #[.bool false, .bool false, .bool false, .string ⟨#[]⟩, .string ⟨#[]⟩] 138) := blk_below (blk_alloc (blk_new _ _) _) hb1 (by simp; try omega)
  have B1 : w1.heap[w.heap.size + 1]? = some (.cells #[.int .i64 0] 24) := blk_below (blk_new' _ (by simp)) hb1 (by simp; try omega)
  have hB : Below w.heap.size w w1 := Below.trans (by repeat (first | exact Below.refl _ _ | refine Below.alloc ?_ (by simp; try omega) _)) (hb1.mono (by simp; try omega))
  clear hb1
  have H := Lib.hid (And.intro hB (And.intro B0 B1))
  clear hB B0 B1
  go_wp2_with fail
  refine (pmust_yes _).mono ?_
  rintro e w' ⟨rfl, rfl⟩
  go_wp2_with fail
  refine (HC2.out _ H.out.1).mono ?_
  rintro e w2 ⟨rfl, hb⟩
  have H' := Lib.hid (And.intro (H.out.1.trans (hb.mono H.out.1.size)) (And.intro (blk_below H.out.2.1 hb (blk_lt H.out.2.1)) (blk_below H.out.2.2 hb (blk_lt H.out.2.2))))
  clear hb H
  have H := H'
  clear H'
  go_wp2_with fail
  refine (pmust_yes _).mono ?_
  rintro e w' ⟨rfl, rfl⟩
  go_wp2_with fail
  refine (HC3.out _ H.out.1).mono ?_
  rintro e w3 ⟨rfl, hb⟩
  have H' := Lib.hid (And.intro (H.out.1.trans (hb.mono H.out.1.size)) (And.intro (blk_below H.out.2.1 hb (blk_lt H.out.2.1)) (blk_below H.out.2.2 hb (blk_lt H.out.2.2))))
  clear hb H
  have H := H'
  clear H'
  have x0 : w3.cell? ⟨w.heap.size, 0, none⟩ = some (.bool false) := blk_cell H.out.2.1 0
  have x1 : w3.cell? ⟨w.heap.size, 1, none⟩ = some (.bool false) := blk_cell H.out.2.1 1
  have x2 : w3.cell? ⟨w.heap.size, 2, none⟩ = some (.bool false) := blk_cell H.out.2.1 2
  have x3 : w3.cell? ⟨w.heap.size, 3, none⟩ = some (.string ⟨#[]⟩) := blk_cell H.out.2.1 3
  have x4 : w3.cell? ⟨w.heap.size, 4, none⟩ = some (.string ⟨#[]⟩) := blk_cell H.out.2.1 4
  have fr0 : w3.frozen? ⟨w.heap.size, 0, none⟩ = false := blk_frozen H.out.2.1 0
  have fr1 : w3.frozen? ⟨w.heap.size, 1, none⟩ = false := blk_frozen H.out.2.1 1
  have fr2 : w3.frozen? ⟨w.heap.size, 2, none⟩ = false := blk_frozen H.out.2.1 2
  have fr3 : w3.frozen? ⟨w.heap.size, 3, none⟩ = false := blk_frozen H.out.2.1 3
  have fr4 : w3.frozen? ⟨w.heap.size, 4, none⟩ = false := blk_frozen H.out.2.1 4
  go_wp2_with fail
  have hB' : Below w.heap.size w (((((w3.setCell ⟨w.heap.size, 0, none⟩ (.bool true)).setCell ⟨w.heap.size, 1, none⟩ (.bool true)).setCell ⟨w.heap.size, 2, none⟩ (.bool true)).setCell ⟨w.heap.size, 3, none⟩ (.string a3)).setCell ⟨w.heap.size, 4, none⟩ (.string ⟨#[]⟩)) := below_set5 H.out.1 (Nat.le_refl _) _ _ _ _ _
  refine (value_any a3 r3 f3 valid lv le _ (HV.out.later hB') (HL.out.later hB')).mono ?_
  rintro e w4 ⟨hout, hb⟩
  have B0 : w4.heap[w.heap.size]? = some (.cells #[.bool true, .bool true, .bool true, .string a3, .string ⟨#[]⟩] 138) := blk_below (blk_set5 H.out.2.1 _ _ _ _ _) hb (blk_lt (blk_set5 H.out.2.1 _ _ _ _ _))
  have B1 : w4.heap[w.heap.size + 1]? = some (.cells #[.int .i64 0] 24) := blk_below (blk_set5_other H.out.2.2 (by omega) _ _ _ _ _) hb (blk_lt (blk_set5_other H.out.2.2 (by omega) _ _ _ _ _))
  have hB := hB'.trans (hb.mono hB'.size)
  clear hb hB' H x0 x1 x2 x3 x4 fr0 fr1 fr2 fr3 fr4
  have H := Lib.hid (And.intro hB (And.intro B0 B1))
  clear hB B0 B1
  cases hval : valueS a3 r3 f3 valid lv le with
  | error c =>
    rw [hval] at hout
    obtain rfl : e = _ := hout
    have HVAL := Lib.hid hval
    clear hval
    go_wp2_with fail
    refine leaves_cons (f := 132) (args := #[.pointer (some ⟨w.heap.size, 0, none⟩), .pointer (some ⟨w.heap.size + 1, 0, none⟩)]) (by simp) (by simp [go_sem]) ?_
    refine (parse_d_panics w.heap.size (w.heap.size + 1) c [] _ _ _ _ _ _ _ H.out.2.1 H.out.2.2 (by omega)).mono ?_
    rintro e u' w'' ⟨rfl, rfl, hbd, B0, B1⟩
    have hB := H.out.1.trans (hbd _ (Nat.le_refl _) (by omega))
    have y0 : w''.cell? ⟨w.heap.size, 0, none⟩ = some (.bool false) := blk_cell B0 0
    have y1 : w''.cell? ⟨w.heap.size, 1, none⟩ = some (.bool false) := blk_cell B0 1
    have y2 : w''.cell? ⟨w.heap.size, 2, none⟩ = some (.bool false) := blk_cell B0 2
    have y3 : w''.cell? ⟨w.heap.size, 3, none⟩ = some (.string ⟨#[]⟩) := blk_cell B0 3
    have y4 : w''.cell? ⟨w.heap.size, 4, none⟩ = some (.string ⟨#[]⟩) := blk_cell B0 4
    have y5 : w''.cell? ⟨w.heap.size + 1, 0, none⟩ = some (.int .i64 c) := blk_cell B1 0
    simp [Leaves, settle, results, Tryz.results89, go_sem, *]
    rw [HVAL.out]; rfl
  | ok v =>
    rw [hval] at hout
    obtain rfl : e = _ := hout
    have HVAL := Lib.hid hval
    clear hval
    have x0 : w4.cell? ⟨w.heap.size, 0, none⟩ = some (.bool true) := blk_cell H.out.2.1 0
    have x1 : w4.cell? ⟨w.heap.size, 1, none⟩ = some (.bool true) := blk_cell H.out.2.1 1
    have x2 : w4.cell? ⟨w.heap.size, 2, none⟩ = some (.bool true) := blk_cell H.out.2.1 2
    have x3 : w4.cell? ⟨w.heap.size, 3, none⟩ = some (.string a3) := blk_cell H.out.2.1 3
    have x4 : w4.cell? ⟨w.heap.size, 4, none⟩ = some (.string ⟨#[]⟩) := blk_cell H.out.2.1 4
    have fr0 : w4.frozen? ⟨w.heap.size, 0, none⟩ = false := blk_frozen H.out.2.1 0
    have fr1 : w4.frozen? ⟨w.heap.size, 1, none⟩ = false := blk_frozen H.out.2.1 1
    have fr2 : w4.frozen? ⟨w.heap.size, 2, none⟩ = false := blk_frozen H.out.2.1 2
    have fr3 : w4.frozen? ⟨w.heap.size, 3, none⟩ = false := blk_frozen H.out.2.1 3
    have fr4 : w4.frozen? ⟨w.heap.size, 4, none⟩ = false := blk_frozen H.out.2.1 4
    have x5 : w4.cell? ⟨w.heap.size + 1, 0, none⟩ = some (.int .i64 0) := blk_cell H.out.2.2 0
    have fr5 : w4.frozen? ⟨w.heap.size + 1, 0, none⟩ = false := blk_frozen H.out.2.2 0
    go_wp2_with fail
    refine leaves_cons (f := 132) (args := #[.pointer (some ⟨w.heap.size, 0, none⟩), .pointer (some ⟨w.heap.size + 1, 0, none⟩)]) (by simp) (by simp [go_sem]) ?_
    refine (parse_d_returns _ _ _).mono ?_
    rintro e u' w'' ⟨rfl, rfl, rfl⟩
    simp [Leaves, settle, results, Tryz.results89, go_sem, *]
    rw [HVAL.out]
    exact ⟨rfl, (below_set5 (H.out.1.setCell (Nat.le_refl _) _) (Nat.le_refl _) _ _ _ _ _).setCell (Nat.le_succ _) _⟩

set_option maxHeartbeats 2000000 in
theorem parse_two_deny_a (s : ByteArray) (a1 r1 : ByteArray) (f1 : Bool) (a2 r2 : ByteArray) (f2 : Bool) (w : World)
    (hc1 : Gives w 133 #[.string s, .string ⟨#[32]⟩] (.tuple #[.string a1, .string r1, .bool f1]))
    (hc2 : Gives w 133 #[.string r1, .string ⟨#[32]⟩] (.tuple #[.string a2, .string r2, .bool f2]))
    (hf1 : f1 = true)
    (ha : (a1.toList == [97, 108, 108, 111, 119]) = false)
    (hd : (a1.toList == [100, 101, 110, 121]) = true)
    (hf2 : f2 = false) :
    Calls Tryz.prog 89 #[.string s] w fun e w' => e = .returned (parseV (.error 2)) ∧ Below w.heap.size w w' := by
  have HC1 := Lib.hid hc1
  have HC2 := Lib.hid hc2
  clear hc1 hc2
  subst hf1
  subst hf2
  have hmf : ∀ (fn : Fn) (first cap : Array Value) (w : World), (Instr.makeFunc fn first cap).run Tryz.prog w = .ok (.func fn first cap) w := fun _ _ _ _ => rfl
  go_enter_defers Tryz.func89, Tryz.ntmps89
  go_wp2_with fail
  refine (HC1.out _ (by repeat (first | exact Below.refl _ _ | refine Below.alloc ?_ (by simp; try omega) _))).mono ?_
  rintro e w1 ⟨rfl, hb1⟩
  have B0 : w1.heap[w.heap.size]? = some (.cells #[.bool false, .bool false, .bool false, .string ⟨#[]⟩, .string ⟨#[]⟩] 138) := blk_below (blk_alloc (blk_new _ _) _) hb1 (by simp; try omega)
  have B1 : w1.heap[w.heap.size + 1]? = some (.cells #[.int .i64 0] 24) := blk_below (blk_new' _ (by simp)) hb1 (by simp; try omega)
  have hB : Below w.heap.size w w1 := Below.trans (by repeat (first | exact Below.refl _ _ | refine Below.alloc ?_ (by simp; try omega) _)) (hb1.mono (by simp; try omega))
  clear hb1
  have H := Lib.hid (And.intro hB (And.intro B0 B1))
  clear hB B0 B1
  go_wp2_with fail
  refine (pmust_yes _).mono ?_
  rintro e w' ⟨rfl, rfl⟩
  go_wp2_with fail
  refine (HC2.out _ H.out.1).mono ?_
  rintro e w2 ⟨rfl, hb⟩
  have H' := Lib.hid (And.intro (H.out.1.trans (hb.mono H.out.1.size)) (And.intro (blk_below H.out.2.1 hb (blk_lt H.out.2.1)) (blk_below H.out.2.2 hb (blk_lt H.out.2.2))))
  clear hb H
  have H := H'
  clear H'
  go_wp2_with fail
  refine (pmust_no _).mono ?_
  rintro e w' ⟨rfl, rfl⟩
  go_wp2_with fail
  refine leaves_cons (f := 132) (args := #[.pointer (some ⟨w.heap.size, 0, none⟩), .pointer (some ⟨w.heap.size + 1, 0, none⟩)]) (by simp) (by simp [go_sem]) ?_
  refine (parse_d_panics w.heap.size (w.heap.size + 1) 2 [] _ _ _ _ _ _ _ H.out.2.1 H.out.2.2 (by omega)).mono ?_
  rintro e u' w'' ⟨rfl, rfl, hbd, B0, B1⟩
  have hB := H.out.1.trans (hbd _ (Nat.le_refl _) (by omega))
  have y0 : w''.cell? ⟨w.heap.size, 0, none⟩ = some (.bool false) := blk_cell B0 0
  have y1 : w''.cell? ⟨w.heap.size, 1, none⟩ = some (.bool false) := blk_cell B0 1
  have y2 : w''.cell? ⟨w.heap.size, 2, none⟩ = some (.bool false) := blk_cell B0 2
  have y3 : w''.cell? ⟨w.heap.size, 3, none⟩ = some (.string ⟨#[]⟩) := blk_cell B0 3
  have y4 : w''.cell? ⟨w.heap.size, 4, none⟩ = some (.string ⟨#[]⟩) := blk_cell B0 4
  have y5 : w''.cell? ⟨w.heap.size + 1, 0, none⟩ = some (.int .i64 2) := blk_cell B1 0
  simp [Leaves, settle, results, Tryz.results89, go_sem, *]
  rfl

set_option maxHeartbeats 2000000 in
theorem parse_two_deny_b (s : ByteArray) (a1 r1 : ByteArray) (f1 : Bool) (a2 r2 : ByteArray) (f2 : Bool) (w : World)
    (hc1 : Gives w 133 #[.string s, .string ⟨#[32]⟩] (.tuple #[.string a1, .string r1, .bool f1]))
    (hc2 : Gives w 133 #[.string r1, .string ⟨#[32]⟩] (.tuple #[.string a2, .string r2, .bool f2]))
    (hf1 : f1 = true)
    (ha : (a1.toList == [97, 108, 108, 111, 119]) = false)
    (hd : (a1.toList == [100, 101, 110, 121]) = true)
    (hf2 : f2 = true)
    (hi : (a2.toList == [105, 110]) = false)
    (ho : (a2.toList == [111, 117, 116]) = false)
    (hbo : (a2.toList == [98, 111, 116, 104]) = false) :
    Calls Tryz.prog 89 #[.string s] w fun e w' => e = .returned (parseV (.error 2)) ∧ Below w.heap.size w w' := by
  have HC1 := Lib.hid hc1
  have HC2 := Lib.hid hc2
  clear hc1 hc2
  subst hf1
  subst hf2
  have hmf : ∀ (fn : Fn) (first cap : Array Value) (w : World), (Instr.makeFunc fn first cap).run Tryz.prog w = .ok (.func fn first cap) w := fun _ _ _ _ => rfl
  go_enter_defers Tryz.func89, Tryz.ntmps89
  go_wp2_with fail
  refine (HC1.out _ (by repeat (first | exact Below.refl _ _ | refine Below.alloc ?_ (by simp; try omega) _))).mono ?_
  rintro e w1 ⟨rfl, hb1⟩
  have B0 : w1.heap[w.heap.size]? = some (.cells #[.bool false, .bool false, .bool false, .string ⟨#[]⟩, .string ⟨#[]⟩] 138) := blk_below (blk_alloc (blk_new _ _) _) hb1 (by simp; try omega)
  have B1 : w1.heap[w.heap.size + 1]? = some (.cells #[.int .i64 0] 24) := blk_below (blk_new' _ (by simp)) hb1 (by simp; try omega)
  have hB : Below w.heap.size w w1 := Below.trans (by repeat (first | exact Below.refl _ _ | refine Below.alloc ?_ (by simp; try omega) _)) (hb1.mono (by simp; try omega))
  clear hb1
  have H := Lib.hid (And.intro hB (And.intro B0 B1))
  clear hB B0 B1
  go_wp2_with fail
  refine (pmust_yes _).mono ?_
  rintro e w' ⟨rfl, rfl⟩
  go_wp2_with fail
  refine (HC2.out _ H.out.1).mono ?_
  rintro e w2 ⟨rfl, hb⟩
  have H' := Lib.hid (And.intro (H.out.1.trans (hb.mono H.out.1.size)) (And.intro (blk_below H.out.2.1 hb (blk_lt H.out.2.1)) (blk_below H.out.2.2 hb (blk_lt H.out.2.2))))
  clear hb H
  have H := H'
  clear H'
  go_wp2_with fail
  refine (pmust_no _).mono ?_
  rintro e w' ⟨rfl, rfl⟩
  go_wp2_with fail
  refine leaves_cons (f := 132) (args := #[.pointer (some ⟨w.heap.size, 0, none⟩), .pointer (some ⟨w.heap.size + 1, 0, none⟩)]) (by simp) (by simp [go_sem]) ?_
  refine (parse_d_panics w.heap.size (w.heap.size + 1) 2 [] _ _ _ _ _ _ _ H.out.2.1 H.out.2.2 (by omega)).mono ?_
  rintro e u' w'' ⟨rfl, rfl, hbd, B0, B1⟩
  have hB := H.out.1.trans (hbd _ (Nat.le_refl _) (by omega))
  have y0 : w''.cell? ⟨w.heap.size, 0, none⟩ = some (.bool false) := blk_cell B0 0
  have y1 : w''.cell? ⟨w.heap.size, 1, none⟩ = some (.bool false) := blk_cell B0 1
  have y2 : w''.cell? ⟨w.heap.size, 2, none⟩ = some (.bool false) := blk_cell B0 2
  have y3 : w''.cell? ⟨w.heap.size, 3, none⟩ = some (.string ⟨#[]⟩) := blk_cell B0 3
  have y4 : w''.cell? ⟨w.heap.size, 4, none⟩ = some (.string ⟨#[]⟩) := blk_cell B0 4
  have y5 : w''.cell? ⟨w.heap.size + 1, 0, none⟩ = some (.int .i64 2) := blk_cell B1 0
  simp [Leaves, settle, results, Tryz.results89, go_sem, *]
  rfl

set_option maxHeartbeats 2000000 in
theorem parse_three_deny_in (s : ByteArray) (a1 r1 : ByteArray) (f1 : Bool) (a2 r2 : ByteArray) (f2 : Bool) (a3 r3 : ByteArray) (f3 valid : Bool) (lv : ByteArray) (le : Int) (w : World)
    (hc1 : Gives w 133 #[.string s, .string ⟨#[32]⟩] (.tuple #[.string a1, .string r1, .bool f1]))
    (hc2 : Gives w 133 #[.string r1, .string ⟨#[32]⟩] (.tuple #[.string a2, .string r2, .bool f2]))
    (hc3 : Gives w 133 #[.string r2, .string ⟨#[32]⟩] (.tuple #[.string a3, .string r3, .bool f3]))
    (hv : Gives w 131 #[.string r3] (.bool valid)) (hl : Gives w 110 #[.string r3] (.tuple #[.string lv, .int .i64 le]))
    (hf1 : f1 = true)
    (ha : (a1.toList == [97, 108, 108, 111, 119]) = false)
    (hd : (a1.toList == [100, 101, 110, 121]) = true)
    (hf2 : f2 = true)
    (hi : (a2.toList == [105, 110]) = true) :
    Calls Tryz.prog 89 #[.string s] w fun e w' => e = .returned (parseV (thenRule false true false a3 (valueS a3 r3 f3 valid lv le))) ∧ Below w.heap.size w w' := by
  have HC1 := Lib.hid hc1
  have HC2 := Lib.hid hc2
  have HC3 := Lib.hid hc3
  have HV := Lib.hid hv
  have HL := Lib.hid hl
  clear hc1 hc2 hc3 hv hl
  subst hf1
  subst hf2
  have ho : (a2.toList == [111, 117, 116]) = false := neq_of hi (by decide)
  have hmf : ∀ (fn : Fn) (first cap : Array Value) (w : World), (Instr.makeFunc fn first cap).run Tryz.prog w = .ok (.func fn first cap) w := fun _ _ _ _ => rfl
  go_enter_defers Tryz.func89, Tryz.ntmps89
  go_wp2_with fail
  refine (HC1.out _ (by repeat (first | exact Below.refl _ _ | refine Below.alloc ?_ (by simp; try omega) _))).mono ?_
  rintro e w1 ⟨rfl, hb1⟩
  have B0 : w1.heap[w.heap.size]? = some (.cells #[.bool false, .bool false, .bool false, .string ⟨#[]⟩, .string ⟨#[]⟩] 138) := blk_below (blk_alloc (blk_new _ _) _) hb1 (by simp; try omega)
  have B1 : w1.heap[w.heap.size + 1]? = some (.cells #[.int .i64 0] 24) := blk_below (blk_new' _ (by simp)) hb1 (by simp; try omega)
  have hB : Below w.heap.size w w1 := Below.trans (by repeat (first | exact Below.refl _ _ | refine Below.alloc ?_ (by simp; try omega) _)) (hb1.mono (by simp; try omega))
  clear hb1
  have H := Lib.hid (And.intro hB (And.intro B0 B1))
  clear hB B0 B1
  go_wp2_with fail
  refine (pmust_yes _).mono ?_
  rintro e w' ⟨rfl, rfl⟩
  go_wp2_with fail
  refine (HC2.out _ H.out.1).mono ?_
  rintro e w2 ⟨rfl, hb⟩
  have H' := Lib.hid (And.intro (H.out.1.trans (hb.mono H.out.1.size)) (And.intro (blk_below H.out.2.1 hb (blk_lt H.out.2.1)) (blk_below H.out.2.2 hb (blk_lt H.out.2.2))))
  clear hb H
  have H := H'
  clear H'
  go_wp2_with fail
  refine (pmust_yes _).mono ?_
  rintro e w' ⟨rfl, rfl⟩
  go_wp2_with fail
  refine (HC3.out _ H.out.1).mono ?_
  rintro e w3 ⟨rfl, hb⟩
  have H' := Lib.hid (And.intro (H.out.1.trans (hb.mono H.out.1.size)) (And.intro (blk_below H.out.2.1 hb (blk_lt H.out.2.1)) (blk_below H.out.2.2 hb (blk_lt H.out.2.2))))
  clear hb H
  have H := H'
  clear H'
  have x0 : w3.cell? ⟨w.heap.size, 0, none⟩ = some (.bool false) := blk_cell H.out.2.1 0
  have x1 : w3.cell? ⟨w.heap.size, 1, none⟩ = some (.bool false) := blk_cell H.out.2.1 1
  have x2 : w3.cell? ⟨w.heap.size, 2, none⟩ = some (.bool false) := blk_cell H.out.2.1 2
  have x3 : w3.cell? ⟨w.heap.size, 3, none⟩ = some (.string ⟨#[]⟩) := blk_cell H.out.2.1 3
  have x4 : w3.cell? ⟨w.heap.size, 4, none⟩ = some (.string ⟨#[]⟩) := blk_cell H.out.2.1 4
  have fr0 : w3.frozen? ⟨w.heap.size, 0, none⟩ = false := blk_frozen H.out.2.1 0
  have fr1 : w3.frozen? ⟨w.heap.size, 1, none⟩ = false := blk_frozen H.out.2.1 1
  have fr2 : w3.frozen? ⟨w.heap.size, 2, none⟩ = false := blk_frozen H.out.2.1 2
  have fr3 : w3.frozen? ⟨w.heap.size, 3, none⟩ = false := blk_frozen H.out.2.1 3
  have fr4 : w3.frozen? ⟨w.heap.size, 4, none⟩ = false := blk_frozen H.out.2.1 4
  go_wp2_with fail
  have hB' : Below w.heap.size w (((((w3.setCell ⟨w.heap.size, 0, none⟩ (.bool false)).setCell ⟨w.heap.size, 1, none⟩ (.bool true)).setCell ⟨w.heap.size, 2, none⟩ (.bool false)).setCell ⟨w.heap.size, 3, none⟩ (.string a3)).setCell ⟨w.heap.size, 4, none⟩ (.string ⟨#[]⟩)) := below_set5 H.out.1 (Nat.le_refl _) _ _ _ _ _
  refine (value_any a3 r3 f3 valid lv le _ (HV.out.later hB') (HL.out.later hB')).mono ?_
  rintro e w4 ⟨hout, hb⟩
  have B0 : w4.heap[w.heap.size]? = some (.cells #[.bool false, .bool true, .bool false, .string a3, .string ⟨#[]⟩] 138) := blk_below (blk_set5 H.out.2.1 _ _ _ _ _) hb (blk_lt (blk_set5 H.out.2.1 _ _ _ _ _))
  have B1 : w4.heap[w.heap.size + 1]? = some (.cells #[.int .i64 0] 24) := blk_below (blk_set5_other H.out.2.2 (by omega) _ _ _ _ _) hb (blk_lt (blk_set5_other H.out.2.2 (by omega) _ _ _ _ _))
  have hB := hB'.trans (hb.mono hB'.size)
  clear hb hB' H x0 x1 x2 x3 x4 fr0 fr1 fr2 fr3 fr4
  have H := Lib.hid (And.intro hB (And.intro B0 B1))
  clear hB B0 B1
  cases hval : valueS a3 r3 f3 valid lv le with
  | error c =>
    rw [hval] at hout
    obtain rfl : e = _ := hout
    have HVAL := Lib.hid hval
    clear hval
    go_wp2_with fail
    refine leaves_cons (f := 132) (args := #[.pointer (some ⟨w.heap.size, 0, none⟩), .pointer (some ⟨w.heap.size + 1, 0, none⟩)]) (by simp) (by simp [go_sem]) ?_
    refine (parse_d_panics w.heap.size (w.heap.size + 1) c [] _ _ _ _ _ _ _ H.out.2.1 H.out.2.2 (by omega)).mono ?_
    rintro e u' w'' ⟨rfl, rfl, hbd, B0, B1⟩
    have hB := H.out.1.trans (hbd _ (Nat.le_refl _) (by omega))
    have y0 : w''.cell? ⟨w.heap.size, 0, none⟩ = some (.bool false) := blk_cell B0 0
    have y1 : w''.cell? ⟨w.heap.size, 1, none⟩ = some (.bool false) := blk_cell B0 1
    have y2 : w''.cell? ⟨w.heap.size, 2, none⟩ = some (.bool false) := blk_cell B0 2
    have y3 : w''.cell? ⟨w.heap.size, 3, none⟩ = some (.string ⟨#[]⟩) := blk_cell B0 3
    have y4 : w''.cell? ⟨w.heap.size, 4, none⟩ = some (.string ⟨#[]⟩) := blk_cell B0 4
    have y5 : w''.cell? ⟨w.heap.size + 1, 0, none⟩ = some (.int .i64 c) := blk_cell B1 0
    simp [Leaves, settle, results, Tryz.results89, go_sem, *]
    rw [HVAL.out]; rfl
  | ok v =>
    rw [hval] at hout
    obtain rfl : e = _ := hout
    have HVAL := Lib.hid hval
    clear hval
    have x0 : w4.cell? ⟨w.heap.size, 0, none⟩ = some (.bool false) := blk_cell H.out.2.1 0
    have x1 : w4.cell? ⟨w.heap.size, 1, none⟩ = some (.bool true) := blk_cell H.out.2.1 1
    have x2 : w4.cell? ⟨w.heap.size, 2, none⟩ = some (.bool false) := blk_cell H.out.2.1 2
    have x3 : w4.cell? ⟨w.heap.size, 3, none⟩ = some (.string a3) := blk_cell H.out.2.1 3
    have x4 : w4.cell? ⟨w.heap.size, 4, none⟩ = some (.string ⟨#[]⟩) := blk_cell H.out.2.1 4
    have fr0 : w4.frozen? ⟨w.heap.size, 0, none⟩ = false := blk_frozen H.out.2.1 0
    have fr1 : w4.frozen? ⟨w.heap.size, 1, none⟩ = false := blk_frozen H.out.2.1 1
    have fr2 : w4.frozen? ⟨w.heap.size, 2, none⟩ = false := blk_frozen H.out.2.1 2
    have fr3 : w4.frozen? ⟨w.heap.size, 3, none⟩ = false := blk_frozen H.out.2.1 3
    have fr4 : w4.frozen? ⟨w.heap.size, 4, none⟩ = false := blk_frozen H.out.2.1 4
    have x5 : w4.cell? ⟨w.heap.size + 1, 0, none⟩ = some (.int .i64 0) := blk_cell H.out.2.2 0
    have fr5 : w4.frozen? ⟨w.heap.size + 1, 0, none⟩ = false := blk_frozen H.out.2.2 0
    go_wp2_with fail
    refine leaves_cons (f := 132) (args := #[.pointer (some ⟨w.heap.size, 0, none⟩), .pointer (some ⟨w.heap.size + 1, 0, none⟩)]) (by simp) (by simp [go_sem]) ?_
    refine (parse_d_returns _ _ _).mono ?_
    rintro e u' w'' ⟨rfl, rfl, rfl⟩
    simp [Leaves, settle, results, Tryz.results89, go_sem, *]
    rw [HVAL.out]
    exact ⟨rfl, (below_set5 (H.out.1.setCell (Nat.le_refl _) _) (Nat.le_refl _) _ _ _ _ _).setCell (Nat.le_succ _) _⟩

set_option maxHeartbeats 2000000 in
theorem parse_three_deny_out (s : ByteArray) (a1 r1 : ByteArray) (f1 : Bool) (a2 r2 : ByteArray) (f2 : Bool) (a3 r3 : ByteArray) (f3 valid : Bool) (lv : ByteArray) (le : Int) (w : World)
    (hc1 : Gives w 133 #[.string s, .string ⟨#[32]⟩] (.tuple #[.string a1, .string r1, .bool f1]))
    (hc2 : Gives w 133 #[.string r1, .string ⟨#[32]⟩] (.tuple #[.string a2, .string r2, .bool f2]))
    (hc3 : Gives w 133 #[.string r2, .string ⟨#[32]⟩] (.tuple #[.string a3, .string r3, .bool f3]))
    (hv : Gives w 131 #[.string r3] (.bool valid)) (hl : Gives w 110 #[.string r3] (.tuple #[.string lv, .int .i64 le]))
    (hf1 : f1 = true)
    (ha : (a1.toList == [97, 108, 108, 111, 119]) = false)
    (hd : (a1.toList == [100, 101, 110, 121]) = true)
    (hf2 : f2 = true)
    (hi : (a2.toList == [105, 110]) = false)
    (ho : (a2.toList == [111, 117, 116]) = true) :
    Calls Tryz.prog 89 #[.string s] w fun e w' => e = .returned (parseV (thenRule false false true a3 (valueS a3 r3 f3 valid lv le))) ∧ Below w.heap.size w w' := by
  have HC1 := Lib.hid hc1
  have HC2 := Lib.hid hc2
  have HC3 := Lib.hid hc3
  have HV := Lib.hid hv
  have HL := Lib.hid hl
  clear hc1 hc2 hc3 hv hl
  subst hf1
  subst hf2
  have hmf : ∀ (fn : Fn) (first cap : Array Value) (w : World), (Instr.makeFunc fn first cap).run Tryz.prog w = .ok (.func fn first cap) w := fun _ _ _ _ => rfl
  go_enter_defers Tryz.func89, Tryz.ntmps89
  go_wp2_with fail
  refine (HC1.out _ (by repeat (first | exact Below.refl _ _ | refine Below.alloc ?_ (by simp; try omega) _))).mono ?_
  rintro e w1 ⟨rfl, hb1⟩
  have B0 : w1.heap[w.heap.size]? = some (.cells #[.bool false, .bool false, .bool false, .string ⟨#[]⟩, .string ⟨#[]⟩] 138) := blk_below (blk_alloc (blk_new _ _) _) hb1 (by simp; try omega)
  have B1 : w1.heap[w.heap.size + 1]? = some (.cells #[.int .i64 0] 24) := blk_below (blk_new' _ (by simp)) hb1 (by simp; try omega)
  have hB : Below w.heap.size w w1 := Below.trans (by repeat (first | exact Below.refl _ _ | refine Below.alloc ?_ (by simp; try omega) _)) (hb1.mono (by simp; try omega))
  clear hb1
  have H := Lib.hid (And.intro hB (And.intro B0 B1))
  clear hB B0 B1
  go_wp2_with fail
  refine (pmust_yes _).mono ?_
  rintro e w' ⟨rfl, rfl⟩
  go_wp2_with fail
  refine (HC2.out _ H.out.1).mono ?_
  rintro e w2 ⟨rfl, hb⟩
  have H' := Lib.hid (And.intro (H.out.1.trans (hb.mono H.out.1.size)) (And.intro (blk_below H.out.2.1 hb (blk_lt H.out.2.1)) (blk_below H.out.2.2 hb (blk_lt H.out.2.2))))
  clear hb H
  have H := H'
  clear H'
  go_wp2_with fail
  refine (pmust_yes _).mono ?_
  rintro e w' ⟨rfl, rfl⟩
  go_wp2_with fail
  refine (HC3.out _ H.out.1).mono ?_
  rintro e w3 ⟨rfl, hb⟩
  have H' := Lib.hid (And.intro (H.out.1.trans (hb.mono H.out.1.size)) (And.intro (blk_below H.out.2.1 hb (blk_lt H.out.2.1)) (blk_below H.out.2.2 hb (blk_lt H.out.2.2))))
  clear hb H
  have H := H'
  clear H'
  have x0 : w3.cell? ⟨w.heap.size, 0, none⟩ = some (.bool false) := blk_cell H.out.2.1 0
  have x1 : w3.cell? ⟨w.heap.size, 1, none⟩ = some (.bool false) := blk_cell H.out.2.1 1
  have x2 : w3.cell? ⟨w.heap.size, 2, none⟩ = some (.bool false) := blk_cell H.out.2.1 2
  have x3 : w3.cell? ⟨w.heap.size, 3, none⟩ = some (.string ⟨#[]⟩) := blk_cell H.out.2.1 3
  have x4 : w3.cell? ⟨w.heap.size, 4, none⟩ = some (.string ⟨#[]⟩) := blk_cell H.out.2.1 4
  have fr0 : w3.frozen? ⟨w.heap.size, 0, none⟩ = false := blk_frozen H.out.2.1 0
  have fr1 : w3.frozen? ⟨w.heap.size, 1, none⟩ = false := blk_frozen H.out.2.1 1
  have fr2 : w3.frozen? ⟨w.heap.size, 2, none⟩ = false := blk_frozen H.out.2.1 2
  have fr3 : w3.frozen? ⟨w.heap.size, 3, none⟩ = false := blk_frozen H.out.2.1 3
  have fr4 : w3.frozen? ⟨w.heap.size, 4, none⟩ = false := blk_frozen H.out.2.1 4
  go_wp2_with fail
  have hB' : Below w.heap.size w (((((w3.setCell ⟨w.heap.size, 0, none⟩ (.bool false)).setCell ⟨w.heap.size, 1, none⟩ (.bool false)).setCell ⟨w.heap.size, 2, none⟩ (.bool true)).setCell ⟨w.heap.size, 3, none⟩ (.string a3)).setCell ⟨w.heap.size, 4, none⟩ (.string ⟨#[]⟩)) := below_set5 H.out.1 (Nat.le_refl _) _ _ _ _ _
  refine (value_any a3 r3 f3 valid lv le _ (HV.out.later hB') (HL.out.later hB')).mono ?_
  rintro e w4 ⟨hout, hb⟩
  have B0 : w4.heap[w.heap.size]? = some (.cells #[.bool false, .bool false, .bool true, .string a3, .string ⟨#[]⟩] 138) := blk_below (blk_set5 H.out.2.1 _ _ _ _ _) hb (blk_lt (blk_set5 H.out.2.1 _ _ _ _ _))
  have B1 : w4.heap[w.heap.size + 1]? = some (.cells #[.int .i64 0] 24) := blk_below (blk_set5_other H.out.2.2 (by omega) _ _ _ _ _) hb (blk_lt (blk_set5_other H.out.2.2 (by omega) _ _ _ _ _))
  have hB := hB'.trans (hb.mono hB'.size)
  clear hb hB' H x0 x1 x2 x3 x4 fr0 fr1 fr2 fr3 fr4
  have H := Lib.hid (And.intro hB (And.intro B0 B1))
  clear hB B0 B1
  cases hval : valueS a3 r3 f3 valid lv le with
  | error c =>
    rw [hval] at hout
    obtain rfl : e = _ := hout
    have HVAL := Lib.hid hval
    clear hval
    go_wp2_with fail
    refine leaves_cons (f := 132) (args := #[.pointer (some ⟨w.heap.size, 0, none⟩), .pointer (some ⟨w.heap.size + 1, 0, none⟩)]) (by simp) (by simp [go_sem]) ?_
    refine (parse_d_panics w.heap.size (w.heap.size + 1) c [] _ _ _ _ _ _ _ H.out.2.1 H.out.2.2 (by omega)).mono ?_
    rintro e u' w'' ⟨rfl, rfl, hbd, B0, B1⟩
    have hB := H.out.1.trans (hbd _ (Nat.le_refl _) (by omega))
    have y0 : w''.cell? ⟨w.heap.size, 0, none⟩ = some (.bool false) := blk_cell B0 0
    have y1 : w''.cell? ⟨w.heap.size, 1, none⟩ = some (.bool false) := blk_cell B0 1
    have y2 : w''.cell? ⟨w.heap.size, 2, none⟩ = some (.bool false) := blk_cell B0 2
    have y3 : w''.cell? ⟨w.heap.size, 3, none⟩ = some (.string ⟨#[]⟩) := blk_cell B0 3
    have y4 : w''.cell? ⟨w.heap.size, 4, none⟩ = some (.string ⟨#[]⟩) := blk_cell B0 4
    have y5 : w''.cell? ⟨w.heap.size + 1, 0, none⟩ = some (.int .i64 c) := blk_cell B1 0
    simp [Leaves, settle, results, Tryz.results89, go_sem, *]
    rw [HVAL.out]; rfl
  | ok v =>
    rw [hval] at hout
    obtain rfl : e = _ := hout
    have HVAL := Lib.hid hval
    clear hval
    have x0 : w4.cell? ⟨w.heap.size, 0, none⟩ = some (.bool false) := blk_cell H.out.2.1 0
    have x1 : w4.cell? ⟨w.heap.size, 1, none⟩ = some (.bool false) := blk_cell H.out.2.1 1
    have x2 : w4.cell? ⟨w.heap.size, 2, none⟩ = some (.bool true) := blk_cell H.out.2.1 2
    have x3 : w4.cell? ⟨w.heap.size, 3, none⟩ = some (.string a3) := blk_cell H.out.2.1 3
    have x4 : w4.cell? ⟨w.heap.size, 4, none⟩ = some (.string ⟨#[]⟩) := blk_cell H.out.2.1 4
    have fr0 : w4.frozen? ⟨w.heap.size, 0, none⟩ = false := blk_frozen H.out.2.1 0
    have fr1 : w4.frozen? ⟨w.heap.size, 1, none⟩ = false := blk_frozen H.out.2.1 1
    have fr2 : w4.frozen? ⟨w.heap.size, 2, none⟩ = false := blk_frozen H.out.2.1 2
    have fr3 : w4.frozen? ⟨w.heap.size, 3, none⟩ = false := blk_frozen H.out.2.1 3
    have fr4 : w4.frozen? ⟨w.heap.size, 4, none⟩ = false := blk_frozen H.out.2.1 4
    have x5 : w4.cell? ⟨w.heap.size + 1, 0, none⟩ = some (.int .i64 0) := blk_cell H.out.2.2 0
    have fr5 : w4.frozen? ⟨w.heap.size + 1, 0, none⟩ = false := blk_frozen H.out.2.2 0
    go_wp2_with fail
    refine leaves_cons (f := 132) (args := #[.pointer (some ⟨w.heap.size, 0, none⟩), .pointer (some ⟨w.heap.size + 1, 0, none⟩)]) (by simp) (by simp [go_sem]) ?_
    refine (parse_d_returns _ _ _).mono ?_
    rintro e u' w'' ⟨rfl, rfl, rfl⟩
    simp [Leaves, settle, results, Tryz.results89, go_sem, *]
    rw [HVAL.out]
    exact ⟨rfl, (below_set5 (H.out.1.setCell (Nat.le_refl _) _) (Nat.le_refl _) _ _ _ _ _).setCell (Nat.le_succ _) _⟩

set_option maxHeartbeats 2000000 in
theorem parse_three_deny_both (s : ByteArray) (a1 r1 : ByteArray) (f1 : Bool) (a2 r2 : ByteArray) (f2 : Bool) (a3 r3 : ByteArray) (f3 valid : Bool) (lv : ByteArray) (le : Int) (w : World)
    (hc1 : Gives w 133 #[.string s, .string ⟨#[32]⟩] (.tuple #[.string a1, .string r1, .bool f1]))
    (hc2 : Gives w 133 #[.string r1, .string ⟨#[32]⟩] (.tuple #[.string a2, .string r2, .bool f2]))
    (hc3 : Gives w 133 #[.string r2, .string ⟨#[32]⟩] (.tuple #[.string a3, .string r3, .bool f3]))
    (hv : Gives w 131 #[.string r3] (.bool valid)) (hl : Gives w 110 #[.string r3] (.tuple #[.string lv, .int .i64 le]))
    (hf1 : f1 = true)
    (ha : (a1.toList == [97, 108, 108, 111, 119]) = false)
    (hd : (a1.toList == [100, 101, 110, 121]) = true)
    (hf2 : f2 = true)
    (hi : (a2.toList == [105, 110]) = false)
    (ho : (a2.toList == [111, 117, 116]) = false)
    (hbo : (a2.toList == [98, 111, 116, 104]) = true) :
    Calls Tryz.prog 89 #[.string s] w fun e w' => e = .returned (parseV (thenRule false true true a3 (valueS a3 r3 f3 valid lv le))) ∧ Below w.heap.size w w' := by
  have HC1 := Lib.hid hc1
  have HC2 := Lib.hid hc2
  have HC3 := Lib.hid hc3
  have HV := Lib.hid hv
  have HL := Lib.hid hl
  clear hc1 hc2 hc3 hv hl
  subst hf1
  subst hf2
  have hmf : ∀ (fn : Fn) (first cap : Array Value) (w : World), (Instr.makeFunc fn first cap).run Tryz.prog w = .ok (.func fn first cap) w := fun _ _ _ _ => rfl
  go_enter_defers Tryz.func89, Tryz.ntmps89
  go_wp2_with fail
  refine (HC1.out _ (by repeat (first | exact Below.refl _ _ | refine Below.alloc ?_ (by simp; try omega) _))).mono ?_
  rintro e w1 ⟨rfl, hb1⟩
  have B0 : w1.heap[w.heap.size]? = some (.cells #[.bool false, .bool false, .bool false, .string ⟨#[]⟩, .string ⟨#[]⟩] 138) := blk_below (blk_alloc (blk_new _ _) _) hb1 (by simp; try omega)
  have B1 : w1.heap[w.heap.size + 1]? = some (.cells #[.int .i64 0] 24) := blk_below (blk_new' _ (by simp)) hb1 (by simp; try omega)
  have hB : Below w.heap.size w w1 := Below.trans (by repeat (first | exact Below.refl _ _ | refine Below.alloc ?_ (by simp; try omega) _)) (hb1.mono (by simp; try omega))
  clear hb1
  have H := Lib.hid (And.intro hB (And.intro B0 B1))
  clear hB B0 B1
  go_wp2_with fail
  refine (pmust_yes _).mono ?_
  rintro e w' ⟨rfl, rfl⟩
  go_wp2_with fail
  refine (HC2.out _ H.out.1).mono ?_
  rintro e w2 ⟨rfl, hb⟩
  have H' := Lib.hid (And.intro (H.out.1.trans (hb.mono H.out.1.size)) (And.intro (blk_below H.out.2.1 hb (blk_lt H.out.2.1)) (blk_below H.out.2.2 hb (blk_lt H.out.2.2))))
  clear hb H
  have H := H'
  clear H'
  go_wp2_with fail
  refine (pmust_yes _).mono ?_
  rintro e w' ⟨rfl, rfl⟩
  go_wp2_with fail
  refine (HC3.out _ H.out.1).mono ?_
  rintro e w3 ⟨rfl, hb⟩
  have H' := Lib.hid (And.intro (H.out.1.trans (hb.mono H.out.1.size)) (And.intro (blk_below H.out.2.1 hb (blk_lt H.out.2.1)) (blk_below H.out.2.2 hb (blk_lt H.out.2.2))))
  clear hb H
  have H := H'
  clear H'
  have x0 : w3.cell? ⟨w.heap.size, 0, none⟩ = some (.bool false) := blk_cell H.out.2.1 0
  have x1 : w3.cell? ⟨w.heap.size, 1, none⟩ = some (.bool false) := blk_cell H.out.2.1 1
  have x2 : w3.cell? ⟨w.heap.size, 2, none⟩ = some (.bool false) := blk_cell H.out.2.1 2
  have x3 : w3.cell? ⟨w.heap.size, 3, none⟩ = some (.string ⟨#[]⟩) := blk_cell H.out.2.1 3
  have x4 : w3.cell? ⟨w.heap.size, 4, none⟩ = some (.string ⟨#[]⟩) := blk_cell H.out.2.1 4
  have fr0 : w3.frozen? ⟨w.heap.size, 0, none⟩ = false := blk_frozen H.out.2.1 0
  have fr1 : w3.frozen? ⟨w.heap.size, 1, none⟩ = false := blk_frozen H.out.2.1 1
  have fr2 : w3.frozen? ⟨w.heap.size, 2, none⟩ = false := blk_frozen H.out.2.1 2
  have fr3 : w3.frozen? ⟨w.heap.size, 3, none⟩ = false := blk_frozen H.out.2.1 3
  have fr4 : w3.frozen? ⟨w.heap.size, 4, none⟩ = false := blk_frozen H.out.2.1 4
  go_wp2_with fail
  have hB' : Below w.heap.size w (((((w3.setCell ⟨w.heap.size, 0, none⟩ (.bool false)).setCell ⟨w.heap.size, 1, none⟩ (.bool true)).setCell ⟨w.heap.size, 2, none⟩ (.bool true)).setCell ⟨w.heap.size, 3, none⟩ (.string a3)).setCell ⟨w.heap.size, 4, none⟩ (.string ⟨#[]⟩)) := below_set5 H.out.1 (Nat.le_refl _) _ _ _ _ _
  refine (value_any a3 r3 f3 valid lv le _ (HV.out.later hB') (HL.out.later hB')).mono ?_
  rintro e w4 ⟨hout, hb⟩
  have B0 : w4.heap[w.heap.size]? = some (.cells #[.bool false, .bool true, .bool true, .string a3, .string ⟨#[]⟩] 138) := blk_below (blk_set5 H.out.2.1 _ _ _ _ _) hb (blk_lt (blk_set5 H.out.2.1 _ _ _ _ _))
  have B1 : w4.heap[w.heap.size + 1]? = some (.cells #[.int .i64 0] 24) := blk_below (blk_set5_other H.out.2.2 (by omega) _ _ _ _ _) hb (blk_lt (blk_set5_other H.out.2.2 (by omega) _ _ _ _ _))
  have hB := hB'.trans (hb.mono hB'.size)
  clear hb hB' H x0 x1 x2 x3 x4 fr0 fr1 fr2 fr3 fr4
  have H := Lib.hid (And.intro hB (And.intro B0 B1))
  clear hB B0 B1
  cases hval : valueS a3 r3 f3 valid lv le with
  | error c =>
    rw [hval] at hout
    obtain rfl : e = _ := hout
    have HVAL := Lib.hid hval
    clear hval
    go_wp2_with fail
    refine leaves_cons (f := 132) (args := #[.pointer (some ⟨w.heap.size, 0, none⟩), .pointer (some ⟨w.heap.size + 1, 0, none⟩)]) (by simp) (by simp [go_sem]) ?_
    refine (parse_d_panics w.heap.size (w.heap.size + 1) c [] _ _ _ _ _ _ _ H.out.2.1 H.out.2.2 (by omega)).mono ?_
    rintro e u' w'' ⟨rfl, rfl, hbd, B0, B1⟩
    have hB := H.out.1.trans (hbd _ (Nat.le_refl _) (by omega))
    have y0 : w''.cell? ⟨w.heap.size, 0, none⟩ = some (.bool false) := blk_cell B0 0
    have y1 : w''.cell? ⟨w.heap.size, 1, none⟩ = some (.bool false) := blk_cell B0 1
    have y2 : w''.cell? ⟨w.heap.size, 2, none⟩ = some (.bool false) := blk_cell B0 2
    have y3 : w''.cell? ⟨w.heap.size, 3, none⟩ = some (.string ⟨#[]⟩) := blk_cell B0 3
    have y4 : w''.cell? ⟨w.heap.size, 4, none⟩ = some (.string ⟨#[]⟩) := blk_cell B0 4
    have y5 : w''.cell? ⟨w.heap.size + 1, 0, none⟩ = some (.int .i64 c) := blk_cell B1 0
    simp [Leaves, settle, results, Tryz.results89, go_sem, *]
    rw [HVAL.out]; rfl
  | ok v =>
    rw [hval] at hout
    obtain rfl : e = _ := hout
    have HVAL := Lib.hid hval
    clear hval
    have x0 : w4.cell? ⟨w.heap.size, 0, none⟩ = some (.bool false) := blk_cell H.out.2.1 0
    have x1 : w4.cell? ⟨w.heap.size, 1, none⟩ = some (.bool true) := blk_cell H.out.2.1 1
    have x2 : w4.cell? ⟨w.heap.size, 2, none⟩ = some (.bool true) := blk_cell H.out.2.1 2
    have x3 : w4.cell? ⟨w.heap.size, 3, none⟩ = some (.string a3) := blk_cell H.out.2.1 3
    have x4 : w4.cell? ⟨w.heap.size, 4, none⟩ = some (.string ⟨#[]⟩) := blk_cell H.out.2.1 4
    have fr0 : w4.frozen? ⟨w.heap.size, 0, none⟩ = false := blk_frozen H.out.2.1 0
    have fr1 : w4.frozen? ⟨w.heap.size, 1, none⟩ = false := blk_frozen H.out.2.1 1
    have fr2 : w4.frozen? ⟨w.heap.size, 2, none⟩ = false := blk_frozen H.out.2.1 2
    have fr3 : w4.frozen? ⟨w.heap.size, 3, none⟩ = false := blk_frozen H.out.2.1 3
    have fr4 : w4.frozen? ⟨w.heap.size, 4, none⟩ = false := blk_frozen H.out.2.1 4
    have x5 : w4.cell? ⟨w.heap.size + 1, 0, none⟩ = some (.int .i64 0) := blk_cell H.out.2.2 0
    have fr5 : w4.frozen? ⟨w.heap.size + 1, 0, none⟩ = false := blk_frozen H.out.2.2 0
    go_wp2_with fail
    refine leaves_cons (f := 132) (args := #[.pointer (some ⟨w.heap.size, 0, none⟩), .pointer (some ⟨w.heap.size + 1, 0, none⟩)]) (by simp) (by simp [go_sem]) ?_
    refine (parse_d_returns _ _ _).mono ?_
    rintro e u' w'' ⟨rfl, rfl, rfl⟩
    simp [Leaves, settle, results, Tryz.results89, go_sem, *]
    rw [HVAL.out]
    exact ⟨rfl, (below_set5 (H.out.1.setCell (Nat.le_refl _) _) (Nat.le_refl _) _ _ _ _ _).setCell (Nat.le_succ _) _⟩


theorem parse_any (s : ByteArray) (a1 r1 : ByteArray) (f1 : Bool) (a2 r2 : ByteArray) (f2 : Bool) (a3 r3 : ByteArray) (f3 valid : Bool) (lv : ByteArray) (le : Int) (w : World)
    (hc1 : Gives w 133 #[.string s, .string ⟨#[32]⟩] (.tuple #[.string a1, .string r1, .bool f1]))
    (hc2 : Gives w 133 #[.string r1, .string ⟨#[32]⟩] (.tuple #[.string a2, .string r2, .bool f2]))
    (hc3 : Gives w 133 #[.string r2, .string ⟨#[32]⟩] (.tuple #[.string a3, .string r3, .bool f3]))
    (hv : Gives w 131 #[.string r3] (.bool valid)) (hl : Gives w 110 #[.string r3] (.tuple #[.string lv, .int .i64 le])) :
    Calls Tryz.prog 89 #[.string s] w fun e w' => e = .returned (parseV (parseS a1 f1 a2 f2 a3 r3 f3 valid lv le)) ∧ Below w.heap.size w w' := by
  unfold parseS
  cases f1
  · exact parse_one_a s a1 r1 _ w hc1 rfl
  cases ha : (a1.toList == [97, 108, 108, 111, 119])
  · cases hd : (a1.toList == [100, 101, 110, 121])
    · exact parse_one_b s a1 r1 _ w hc1 rfl ha hd
    · cases f2
      · exact parse_two_deny_a s a1 r1 _ a2 r2 _ w hc1 hc2 rfl ha hd rfl
      cases hi : (a2.toList == [105, 110])
      · cases ho : (a2.toList == [111, 117, 116])
        · cases hbo : (a2.toList == [98, 111, 116, 104])
          · exact parse_two_deny_b s a1 r1 _ a2 r2 _ w hc1 hc2 rfl ha hd rfl hi ho hbo
          · exact parse_three_deny_both s a1 r1 _ a2 r2 _ a3 r3 f3 valid lv le w hc1 hc2 hc3 hv hl rfl ha hd rfl hi ho hbo
        · exact parse_three_deny_out s a1 r1 _ a2 r2 _ a3 r3 f3 valid lv le w hc1 hc2 hc3 hv hl rfl ha hd rfl hi ho
      · rw [neq_of (l' := [111, 117, 116]) hi (by decide)]
        exact parse_three_deny_in s a1 r1 _ a2 r2 _ a3 r3 f3 valid lv le w hc1 hc2 hc3 hv hl rfl ha hd rfl hi
  · cases f2
    · exact parse_two_allow_a s a1 r1 _ a2 r2 _ w hc1 hc2 rfl ha rfl
    cases hi : (a2.toList == [105, 110])
    · cases ho : (a2.toList == [111, 117, 116])
      · cases hbo : (a2.toList == [98, 111, 116, 104])
        · exact parse_two_allow_b s a1 r1 _ a2 r2 _ w hc1 hc2 rfl ha rfl hi ho hbo
        · exact parse_three_allow_both s a1 r1 _ a2 r2 _ a3 r3 f3 valid lv le w hc1 hc2 hc3 hv hl rfl ha rfl hi ho hbo
      · exact parse_three_allow_out s a1 r1 _ a2 r2 _ a3 r3 f3 valid lv le w hc1 hc2 hc3 hv hl rfl ha rfl hi ho
    · rw [neq_of (l' := [111, 117, 116]) hi (by decide)]
      exact parse_three_allow_in s a1 r1 _ a2 r2 _ a3 r3 f3 valid lv le w hc1 hc2 hc3 hv hl rfl ha rfl hi

end Go.Proofs.YthbjcihdlhkboaaGreatDoor
