/- A half: what the user does of it (subs.Act). -/
import Derived.Test.YthbjcihdlhkboaaGreatDoorProg
import Derived.WalkKit
import Derived.WalkSpells
import Derived.WalkLawsBesides
import Derived.Deep.QuietTactic
import Derived.BigQuiet
import Derived.Defers
import Derived.Lib.Hide
import Derived.Recover
import Derived.KernelRfl
namespace Go.Proofs.YthbjcihdlhkboaaGreatDoor
set_option linter.unusedSimpArgs false
set_option linter.unusedVariables false
open Go.RowKit


def sideB (s n : Int) : Bool := decide (0 ≤ s) && decide (s ≤ 2) && ((s == 0) == (n == 0))

set_option maxHeartbeats 400000 in
theorem side_any (s n : Int) (w : World) :
    Calls Tryz.prog 155 #[.int .i64 s, .int .u64 n] w fun e w' => e = .returned (.bool (sideB s n)) ∧ w' = w := by
  unfold sideB
  by_cases h0 : 0 ≤ s
  · by_cases h2 : s ≤ 2
    · have g0 : decide (0 ≤ s) = true := by simpa using h0
      have g2 : decide (s ≤ 2) = true := by simpa using h2
      go_enter Tryz.func155, Tryz.ntmps155
      go_wp2
      go_ret
      exact ⟨by simp [*], rfl⟩
    · have g0 : decide (0 ≤ s) = true := by simpa using h0
      have g2 : decide (s ≤ 2) = false := by simpa using h2
      go_enter Tryz.func155, Tryz.ntmps155
      go_wp2
      go_ret
      exact ⟨by simp [*], rfl⟩
  · have g0 : decide (0 ≤ s) = false := by simpa using h0
    go_enter Tryz.func155, Tryz.ntmps155
    go_wp2
    go_ret
    exact ⟨by simp [*], rfl⟩

def sfailsV : Value := .iface 191 (.agg #[])

set_option maxHeartbeats 400000 in
theorem smust_yes (w : World) :
    Calls Tryz.prog 119 #[.bool true] w fun e w' => e = .returned (.tuple #[]) ∧ w' = w := by
  go_enter Tryz.func119, Tryz.ntmps119
  go_wp2
  go_end0
  exact ⟨rfl, rfl⟩

set_option maxHeartbeats 400000 in
theorem smust_no (w : World) :
    Calls Tryz.prog 119 #[.bool false] w fun e w' => e = .panicked [{ v := sfailsV, recovered := false }] ∧ w' = w := by
  go_enter Tryz.func119, Tryz.ntmps119
  go_wp2
  exact ⟨rfl, rfl, rfl⟩

structure Half where
  o : Int
  n : Int
  i : Int
  m : Int
deriving DecidableEq

abbrev Half.val (h : Half) : Value := .agg #[.int .i64 h.o, .int .u64 h.n, .int .i64 h.i, .int .u64 h.m]

def rightB (h : Half) : Bool := sideB h.o h.n && sideB h.i h.m

set_option maxHeartbeats 400000 in
theorem right_any (o n i m : Int) (w : World) :
    Calls Tryz.prog 120 #[.agg #[.int .i64 o, .int .u64 n, .int .i64 i, .int .u64 m]] w fun e w' => e = .returned (.bool (sideB o n && sideB i m)) ∧ w' = w.alloc (.cells #[.int .i64 o, .int .u64 n, .int .i64 i, .int .u64 m] 52) := by
  cases h : sideB o n
  · have H := Lib.hid h
    clear h
    go_enter Tryz.func120, Tryz.ntmps120
    go_wp2_with fail
    refine (side_any _ _ _).mono ?_
    rintro e w' ⟨rfl, rfl⟩
    rw [H.out]
    go_wp2_with fail
    go_ret
    exact ⟨rfl, rfl⟩
  · have H := Lib.hid h
    clear h
    go_enter Tryz.func120, Tryz.ntmps120
    go_wp2_with fail
    refine (side_any _ _ _).mono ?_
    rintro e w' ⟨rfl, rfl⟩
    rw [H.out]
    go_wp2_with fail
    refine (side_any _ _ _).mono ?_
    rintro e w' ⟨rfl, rfl⟩
    go_wp2_with fail
    go_ret
    exact ⟨rfl, rfl⟩

set_option maxHeartbeats 400000 in
theorem refused_nil (w : World) :
    Calls Tryz.prog 118 #[.nilIface] w fun e w' => e = .returned (.int .i64 0) ∧ w' = w := by
  go_enter Tryz.func118, Tryz.ntmps118
  go_wp2
  go_ret
  exact ⟨rfl, rfl⟩

set_option maxHeartbeats 400000 in
theorem refused_fails (w : World) :
    Calls Tryz.prog 118 #[sfailsV] w fun e w' => e = .returned (.int .i64 1) ∧ w' = w.alloc (.cells #[] 191) := by
  unfold sfailsV
  have ht : ∀ w, (Instr.typeAssert (.iface 191 (.agg #[])) 20 191 true).run Tryz.prog w = .ok (.tuple #[.agg #[], .bool true]) w := fun _ => by kernel_rfl
  go_enter Tryz.func118, Tryz.ntmps118
  go_wp2
  go_ret
  exact ⟨rfl, rfl⟩



theorem act_d_panics (w : World) (older : List PanicEntry) (A X : Array Value) (TA TX : TypeId)
    (e0 m0 n0 t0 t1 t2 t3 : Value) :
    CallsD Tryz.prog 117 #[.pointer (some ⟨w.heap.size + 4, 0, none⟩), .pointer (some ⟨w.heap.size + 1, 0, none⟩), .pointer (some ⟨w.heap.size + 2, 0, none⟩), .pointer (some ⟨w.heap.size + 3, 0, none⟩)] (.panicking ({ v := sfailsV, recovered := false } :: older))
      ((((((w.alloc (.cells A TA)).alloc (.cells #[t0, t1, t2, t3] 52)).alloc (.cells #[m0] 3)).alloc (.cells #[n0] 45)).alloc (.cells #[e0] 24)).alloc (.cells X TX)) fun e u' w' =>
      e = .returned (.tuple #[]) ∧ u' = .panicking ({ v := sfailsV, recovered := true } :: older) ∧
       w' = ((((((w.alloc (.cells A TA)).alloc (.cells #[.int .i64 0, .int .u64 0, .int .i64 0, .int .u64 0] 52)).alloc (.cells #[.int .i64 0] 3)).alloc (.cells #[.int .u64 0] 45)).alloc (.cells #[.int .i64 1] 24)).alloc (.cells X TX)).alloc (.cells #[] 191) := by
  have hr := refused_fails ((((((w.alloc (.cells A TA)).alloc (.cells #[t0, t1, t2, t3] 52)).alloc (.cells #[m0] 3)).alloc (.cells #[n0] 45)).alloc (.cells #[e0] 24)).alloc (.cells X TX))
  unfold sfailsV at *
  refine callsD_of_wpS Tryz.func117 rfl fun c₀ cs hu => ?_
  apply wpS_seq
  apply wpS_region
  simp [wpOpsS, go_sem, recoverD, hu, Tryz.ntmps117]
  refine hr.mono ?_
  rintro e w' ⟨rfl, rfl⟩
  simp [wpOpsS, go_sem, Exit.thenS]
  refine wpS_of_wp ?_
  go_wp2
  simp [bodyPostS, results, Tryz.results117]

theorem act_d_returns (pe pt pm pn : Addr) (w : World) (e0 : Value) (hce : w.cell? pe = some e0) (hfe : w.frozen? pe = false) :
    CallsD Tryz.prog 117 #[.pointer (some pe), .pointer (some pt), .pointer (some pm), .pointer (some pn)] .returning w fun e u' w' =>
      e = .returned (.tuple #[]) ∧ u' = .returning ∧ w' = w.setCell pe (.int .i64 0) := by
  have hr := refused_nil w
  refine callsD_of_wpS Tryz.func117 rfl fun c₀ cs hu => ?_
  apply wpS_seq
  apply wpS_region
  simp [wpOpsS, go_sem, recoverD, hu, Tryz.ntmps117]
  refine hr.mono ?_
  rintro e w' ⟨rfl, rfl⟩
  simp [wpOpsS, go_sem, Exit.thenS, hce, hfe]
  refine wpS_of_wp ?_
  go_wp2
  cases c₀
  simp_all [bodyPostS, results, Tryz.results117]

/-- What 'Act' computes: none where it refuses. -/
def actS (h : Half) (k n : Int) : Option (Half × Int × Int) :=
  if rightB h = false then none
  else if k = 11 then (if n = 0 then none else if h.o = 0 then some (⟨1, n, h.i, h.m⟩, 1, n) else some (h, 0, 0))
  else if k = 13 then (if h.o = 0 then some (h, 0, 0) else some (⟨0, 0, h.i, h.m⟩, 2, h.n))
  else if k = 12 then (if h.i = 1 then some (⟨h.o, h.n, 2, h.m⟩, 3, h.m) else some (h, 0, 0))
  else if k = 14 then (if h.i = 0 then some (h, 0, 0) else some (⟨h.o, h.n, 0, 0⟩, 4, h.m))
  else none

def actV : Option (Half × Int × Int) → Value
  | none => .tuple #[.agg #[.int .i64 0, .int .u64 0, .int .i64 0, .int .u64 0], .int .i64 0, .int .u64 0, .int .i64 1]
  | some (h, m, n) => .tuple #[h.val, .int .i64 m, .int .u64 n, .int .i64 0]

set_option maxHeartbeats 1000000 in
theorem act_wrong (o hn i m k n : Int) (hr : (sideB o hn && sideB i m) = false) (w : World) :
    Calls Tryz.prog 69 #[Half.val ⟨o, hn, i, m⟩, .int .i64 k, .int .u64 n] w fun e w' => e = .returned (actV (none)) ∧ Below w.heap.size w w' := by
  have hmf : ∀ (fn : Fn) (first cap : Array Value) (w : World), (Instr.makeFunc fn first cap).run Tryz.prog w = .ok (.func fn first cap) w := fun _ _ _ _ => rfl
  have H := Lib.hid hr
  clear hr
  go_enter_defers Tryz.func69, Tryz.ntmps69
  go_wp2_with fail
  refine (right_any _ _ _ _ _).mono ?_
  rintro e w' ⟨rfl, rfl⟩
  rw [H.out]
  go_wp2_with fail
  refine (smust_no _).mono ?_
  rintro e w' ⟨rfl, rfl⟩
  go_wp2_with fail
  refine leaves_cons (f := 117) (args := #[.pointer (some ⟨w.heap.size + 4, 0, none⟩), .pointer (some ⟨w.heap.size + 1, 0, none⟩), .pointer (some ⟨w.heap.size + 2, 0, none⟩), .pointer (some ⟨w.heap.size + 3, 0, none⟩)]) (by simp) (by simp [go_sem]) ?_
  refine (act_d_panics _ [] _ _ _ _ _ _ _ _ _ _ _).mono ?_
  rintro e u' w'' ⟨rfl, rfl, rfl⟩
  simp [Leaves, settle, results, Tryz.results69, go_sem]
  exact ⟨rfl, by repeat (first | exact Below.refl _ _ | refine Below.drew ?_ | refine Below.alloc ?_ (by simp; try omega) _)⟩

set_option maxHeartbeats 1000000 in
theorem act_ask0 (o hn i m : Int) (hr : (sideB o hn && sideB i m) = true) (w : World) :
    Calls Tryz.prog 69 #[Half.val ⟨o, hn, i, m⟩, .int .i64 11, .int .u64 0] w fun e w' => e = .returned (actV (none)) ∧ Below w.heap.size w w' := by
  have hmf : ∀ (fn : Fn) (first cap : Array Value) (w : World), (Instr.makeFunc fn first cap).run Tryz.prog w = .ok (.func fn first cap) w := fun _ _ _ _ => rfl
  have H := Lib.hid hr
  clear hr
  go_enter_defers Tryz.func69, Tryz.ntmps69
  go_wp2_with fail
  refine (right_any _ _ _ _ _).mono ?_
  rintro e w' ⟨rfl, rfl⟩
  rw [H.out]
  go_wp2_with fail
  refine (smust_yes _).mono ?_
  rintro e w' ⟨rfl, rfl⟩
  go_wp2_with fail
  refine (smust_no _).mono ?_
  rintro e w' ⟨rfl, rfl⟩
  go_wp2_with fail
  refine leaves_cons (f := 117) (args := #[.pointer (some ⟨w.heap.size + 4, 0, none⟩), .pointer (some ⟨w.heap.size + 1, 0, none⟩), .pointer (some ⟨w.heap.size + 2, 0, none⟩), .pointer (some ⟨w.heap.size + 3, 0, none⟩)]) (by simp) (by simp [go_sem]) ?_
  refine (act_d_panics _ [] _ _ _ _ _ _ _ _ _ _ _).mono ?_
  rintro e u' w'' ⟨rfl, rfl, rfl⟩
  simp [Leaves, settle, results, Tryz.results69, go_sem]
  exact ⟨rfl, by repeat (first | exact Below.refl _ _ | refine Below.drew ?_ | refine Below.alloc ?_ (by simp; try omega) _)⟩

set_option maxHeartbeats 1000000 in
theorem act_ask (hn i m n : Int) (hr : (sideB 0 hn && sideB i m) = true) (h0 : n ≠ 0) (w : World) :
    Calls Tryz.prog 69 #[Half.val ⟨0, hn, i, m⟩, .int .i64 11, .int .u64 n] w fun e w' => e = .returned (actV (some (⟨1, n, i, m⟩, 1, n))) ∧ Below w.heap.size w w' := by
  have hmf : ∀ (fn : Fn) (first cap : Array Value) (w : World), (Instr.makeFunc fn first cap).run Tryz.prog w = .ok (.func fn first cap) w := fun _ _ _ _ => rfl
  have H := Lib.hid hr
  clear hr
  have h_n : (n != 0) = true := by simp [h0]
  clear h0
  go_enter_defers Tryz.func69, Tryz.ntmps69
  go_wp2_with fail
  refine (right_any _ _ _ _ _).mono ?_
  rintro e w' ⟨rfl, rfl⟩
  rw [H.out]
  go_wp2_with fail
  refine (smust_yes _).mono ?_
  rintro e w' ⟨rfl, rfl⟩
  go_wp2_with fail
  refine (smust_yes _).mono ?_
  rintro e w' ⟨rfl, rfl⟩
  go_wp2_with fail
  go_region
  go_wp2_with fail
  refine leaves_cons (f := 117) (args := #[.pointer (some ⟨w.heap.size + 4, 0, none⟩), .pointer (some ⟨w.heap.size + 1, 0, none⟩), .pointer (some ⟨w.heap.size + 2, 0, none⟩), .pointer (some ⟨w.heap.size + 3, 0, none⟩)]) (by simp) (by simp [go_sem]) ?_
  refine (act_d_returns _ _ _ _ _ (.int .i64 0) (by simp [go_sem]) (by simp [go_sem])).mono ?_
  rintro e u' w'' ⟨rfl, rfl, rfl⟩
  simp [Leaves, settle, results, Tryz.results69, go_sem]
  exact ⟨rfl, by repeat (first | exact Below.refl _ _ | refine Below.drew ?_ | refine Below.alloc ?_ (by simp; try omega) _)⟩

set_option maxHeartbeats 1000000 in
theorem act_ask_no (o hn i m n : Int) (hr : (sideB o hn && sideB i m) = true) (h0 : n ≠ 0) (h1 : o ≠ 0) (w : World) :
    Calls Tryz.prog 69 #[Half.val ⟨o, hn, i, m⟩, .int .i64 11, .int .u64 n] w fun e w' => e = .returned (actV (some (⟨o, hn, i, m⟩, 0, 0))) ∧ Below w.heap.size w w' := by
  have hmf : ∀ (fn : Fn) (first cap : Array Value) (w : World), (Instr.makeFunc fn first cap).run Tryz.prog w = .ok (.func fn first cap) w := fun _ _ _ _ => rfl
  have H := Lib.hid hr
  clear hr
  have h_n : (n != 0) = true := by simp [h0]
  have e_o : (o == 0) = false := by simp [h1]
  clear h0 h1
  go_enter_defers Tryz.func69, Tryz.ntmps69
  go_wp2_with fail
  refine (right_any _ _ _ _ _).mono ?_
  rintro e w' ⟨rfl, rfl⟩
  rw [H.out]
  go_wp2_with fail
  refine (smust_yes _).mono ?_
  rintro e w' ⟨rfl, rfl⟩
  go_wp2_with fail
  refine (smust_yes _).mono ?_
  rintro e w' ⟨rfl, rfl⟩
  go_wp2_with fail
  go_region
  go_wp2_with fail
  refine leaves_cons (f := 117) (args := #[.pointer (some ⟨w.heap.size + 4, 0, none⟩), .pointer (some ⟨w.heap.size + 1, 0, none⟩), .pointer (some ⟨w.heap.size + 2, 0, none⟩), .pointer (some ⟨w.heap.size + 3, 0, none⟩)]) (by simp) (by simp [go_sem]) ?_
  refine (act_d_returns _ _ _ _ _ (.int .i64 0) (by simp [go_sem]) (by simp [go_sem])).mono ?_
  rintro e u' w'' ⟨rfl, rfl, rfl⟩
  simp [Leaves, settle, results, Tryz.results69, go_sem]
  exact ⟨rfl, by repeat (first | exact Below.refl _ _ | refine Below.drew ?_ | refine Below.alloc ?_ (by simp; try omega) _)⟩

set_option maxHeartbeats 1000000 in
theorem act_leave (o hn i m n : Int) (hr : (sideB o hn && sideB i m) = true) (h1 : o ≠ 0) (w : World) :
    Calls Tryz.prog 69 #[Half.val ⟨o, hn, i, m⟩, .int .i64 13, .int .u64 n] w fun e w' => e = .returned (actV (some (⟨0, 0, i, m⟩, 2, hn))) ∧ Below w.heap.size w w' := by
  have hmf : ∀ (fn : Fn) (first cap : Array Value) (w : World), (Instr.makeFunc fn first cap).run Tryz.prog w = .ok (.func fn first cap) w := fun _ _ _ _ => rfl
  have H := Lib.hid hr
  clear hr
  have e_o : (o != 0) = true := by simp [h1]
  clear h1
  go_enter_defers Tryz.func69, Tryz.ntmps69
  go_wp2_with fail
  refine (right_any _ _ _ _ _).mono ?_
  rintro e w' ⟨rfl, rfl⟩
  rw [H.out]
  go_wp2_with fail
  refine (smust_yes _).mono ?_
  rintro e w' ⟨rfl, rfl⟩
  go_wp2_with fail
  go_region
  go_wp2_with fail
  go_region
  go_wp2_with fail
  refine leaves_cons (f := 117) (args := #[.pointer (some ⟨w.heap.size + 4, 0, none⟩), .pointer (some ⟨w.heap.size + 1, 0, none⟩), .pointer (some ⟨w.heap.size + 2, 0, none⟩), .pointer (some ⟨w.heap.size + 3, 0, none⟩)]) (by simp) (by simp [go_sem]) ?_
  refine (act_d_returns _ _ _ _ _ (.int .i64 0) (by simp [go_sem]) (by simp [go_sem])).mono ?_
  rintro e u' w'' ⟨rfl, rfl, rfl⟩
  simp [Leaves, settle, results, Tryz.results69, go_sem]
  exact ⟨rfl, by repeat (first | exact Below.refl _ _ | refine Below.drew ?_ | refine Below.alloc ?_ (by simp; try omega) _)⟩

set_option maxHeartbeats 1000000 in
theorem act_leave_no (hn i m n : Int) (hr : (sideB 0 hn && sideB i m) = true) (w : World) :
    Calls Tryz.prog 69 #[Half.val ⟨0, hn, i, m⟩, .int .i64 13, .int .u64 n] w fun e w' => e = .returned (actV (some (⟨0, hn, i, m⟩, 0, 0))) ∧ Below w.heap.size w w' := by
  have hmf : ∀ (fn : Fn) (first cap : Array Value) (w : World), (Instr.makeFunc fn first cap).run Tryz.prog w = .ok (.func fn first cap) w := fun _ _ _ _ => rfl
  have H := Lib.hid hr
  clear hr
  go_enter_defers Tryz.func69, Tryz.ntmps69
  go_wp2_with fail
  refine (right_any _ _ _ _ _).mono ?_
  rintro e w' ⟨rfl, rfl⟩
  rw [H.out]
  go_wp2_with fail
  refine (smust_yes _).mono ?_
  rintro e w' ⟨rfl, rfl⟩
  go_wp2_with fail
  go_region
  go_wp2_with fail
  refine leaves_cons (f := 117) (args := #[.pointer (some ⟨w.heap.size + 4, 0, none⟩), .pointer (some ⟨w.heap.size + 1, 0, none⟩), .pointer (some ⟨w.heap.size + 2, 0, none⟩), .pointer (some ⟨w.heap.size + 3, 0, none⟩)]) (by simp) (by simp [go_sem]) ?_
  refine (act_d_returns _ _ _ _ _ (.int .i64 0) (by simp [go_sem]) (by simp [go_sem])).mono ?_
  rintro e u' w'' ⟨rfl, rfl, rfl⟩
  simp [Leaves, settle, results, Tryz.results69, go_sem]
  exact ⟨rfl, by repeat (first | exact Below.refl _ _ | refine Below.drew ?_ | refine Below.alloc ?_ (by simp; try omega) _)⟩

set_option maxHeartbeats 1000000 in
theorem act_grant (o hn m n : Int) (hr : (sideB o hn && sideB 1 m) = true) (w : World) :
    Calls Tryz.prog 69 #[Half.val ⟨o, hn, 1, m⟩, .int .i64 12, .int .u64 n] w fun e w' => e = .returned (actV (some (⟨o, hn, 2, m⟩, 3, m))) ∧ Below w.heap.size w w' := by
  have hmf : ∀ (fn : Fn) (first cap : Array Value) (w : World), (Instr.makeFunc fn first cap).run Tryz.prog w = .ok (.func fn first cap) w := fun _ _ _ _ => rfl
  have H := Lib.hid hr
  clear hr
  go_enter_defers Tryz.func69, Tryz.ntmps69
  go_wp2_with fail
  refine (right_any _ _ _ _ _).mono ?_
  rintro e w' ⟨rfl, rfl⟩
  rw [H.out]
  go_wp2_with fail
  refine (smust_yes _).mono ?_
  rintro e w' ⟨rfl, rfl⟩
  go_wp2_with fail
  go_region
  go_wp2_with fail
  go_region
  go_wp2_with fail
  refine leaves_cons (f := 117) (args := #[.pointer (some ⟨w.heap.size + 4, 0, none⟩), .pointer (some ⟨w.heap.size + 1, 0, none⟩), .pointer (some ⟨w.heap.size + 2, 0, none⟩), .pointer (some ⟨w.heap.size + 3, 0, none⟩)]) (by simp) (by simp [go_sem]) ?_
  refine (act_d_returns _ _ _ _ _ (.int .i64 0) (by simp [go_sem]) (by simp [go_sem])).mono ?_
  rintro e u' w'' ⟨rfl, rfl, rfl⟩
  simp [Leaves, settle, results, Tryz.results69, go_sem]
  exact ⟨rfl, by repeat (first | exact Below.refl _ _ | refine Below.drew ?_ | refine Below.alloc ?_ (by simp; try omega) _)⟩

set_option maxHeartbeats 1000000 in
theorem act_grant_no (o hn i m n : Int) (hr : (sideB o hn && sideB i m) = true) (h1 : i ≠ 1) (w : World) :
    Calls Tryz.prog 69 #[Half.val ⟨o, hn, i, m⟩, .int .i64 12, .int .u64 n] w fun e w' => e = .returned (actV (some (⟨o, hn, i, m⟩, 0, 0))) ∧ Below w.heap.size w w' := by
  have hmf : ∀ (fn : Fn) (first cap : Array Value) (w : World), (Instr.makeFunc fn first cap).run Tryz.prog w = .ok (.func fn first cap) w := fun _ _ _ _ => rfl
  have H := Lib.hid hr
  clear hr
  have e_i : (i == 1) = false := by simp [h1]
  clear h1
  go_enter_defers Tryz.func69, Tryz.ntmps69
  go_wp2_with fail
  refine (right_any _ _ _ _ _).mono ?_
  rintro e w' ⟨rfl, rfl⟩
  rw [H.out]
  go_wp2_with fail
  refine (smust_yes _).mono ?_
  rintro e w' ⟨rfl, rfl⟩
  go_wp2_with fail
  go_region
  go_wp2_with fail
  refine leaves_cons (f := 117) (args := #[.pointer (some ⟨w.heap.size + 4, 0, none⟩), .pointer (some ⟨w.heap.size + 1, 0, none⟩), .pointer (some ⟨w.heap.size + 2, 0, none⟩), .pointer (some ⟨w.heap.size + 3, 0, none⟩)]) (by simp) (by simp [go_sem]) ?_
  refine (act_d_returns _ _ _ _ _ (.int .i64 0) (by simp [go_sem]) (by simp [go_sem])).mono ?_
  rintro e u' w'' ⟨rfl, rfl, rfl⟩
  simp [Leaves, settle, results, Tryz.results69, go_sem]
  exact ⟨rfl, by repeat (first | exact Below.refl _ _ | refine Below.drew ?_ | refine Below.alloc ?_ (by simp; try omega) _)⟩

set_option maxHeartbeats 1000000 in
theorem act_deny (o hn i m n : Int) (hr : (sideB o hn && sideB i m) = true) (h1 : i ≠ 0) (w : World) :
    Calls Tryz.prog 69 #[Half.val ⟨o, hn, i, m⟩, .int .i64 14, .int .u64 n] w fun e w' => e = .returned (actV (some (⟨o, hn, 0, 0⟩, 4, m))) ∧ Below w.heap.size w w' := by
  have hmf : ∀ (fn : Fn) (first cap : Array Value) (w : World), (Instr.makeFunc fn first cap).run Tryz.prog w = .ok (.func fn first cap) w := fun _ _ _ _ => rfl
  have H := Lib.hid hr
  clear hr
  have e_i : (i != 0) = true := by simp [h1]
  clear h1
  go_enter_defers Tryz.func69, Tryz.ntmps69
  go_wp2_with fail
  refine (right_any _ _ _ _ _).mono ?_
  rintro e w' ⟨rfl, rfl⟩
  rw [H.out]
  go_wp2_with fail
  refine (smust_yes _).mono ?_
  rintro e w' ⟨rfl, rfl⟩
  go_wp2_with fail
  go_region
  go_wp2_with fail
  go_region
  go_wp2_with fail
  refine leaves_cons (f := 117) (args := #[.pointer (some ⟨w.heap.size + 4, 0, none⟩), .pointer (some ⟨w.heap.size + 1, 0, none⟩), .pointer (some ⟨w.heap.size + 2, 0, none⟩), .pointer (some ⟨w.heap.size + 3, 0, none⟩)]) (by simp) (by simp [go_sem]) ?_
  refine (act_d_returns _ _ _ _ _ (.int .i64 0) (by simp [go_sem]) (by simp [go_sem])).mono ?_
  rintro e u' w'' ⟨rfl, rfl, rfl⟩
  simp [Leaves, settle, results, Tryz.results69, go_sem]
  exact ⟨rfl, by repeat (first | exact Below.refl _ _ | refine Below.drew ?_ | refine Below.alloc ?_ (by simp; try omega) _)⟩

set_option maxHeartbeats 1000000 in
theorem act_deny_no (o hn m n : Int) (hr : (sideB o hn && sideB 0 m) = true) (w : World) :
    Calls Tryz.prog 69 #[Half.val ⟨o, hn, 0, m⟩, .int .i64 14, .int .u64 n] w fun e w' => e = .returned (actV (some (⟨o, hn, 0, m⟩, 0, 0))) ∧ Below w.heap.size w w' := by
  have hmf : ∀ (fn : Fn) (first cap : Array Value) (w : World), (Instr.makeFunc fn first cap).run Tryz.prog w = .ok (.func fn first cap) w := fun _ _ _ _ => rfl
  have H := Lib.hid hr
  clear hr
  go_enter_defers Tryz.func69, Tryz.ntmps69
  go_wp2_with fail
  refine (right_any _ _ _ _ _).mono ?_
  rintro e w' ⟨rfl, rfl⟩
  rw [H.out]
  go_wp2_with fail
  refine (smust_yes _).mono ?_
  rintro e w' ⟨rfl, rfl⟩
  go_wp2_with fail
  go_region
  go_wp2_with fail
  refine leaves_cons (f := 117) (args := #[.pointer (some ⟨w.heap.size + 4, 0, none⟩), .pointer (some ⟨w.heap.size + 1, 0, none⟩), .pointer (some ⟨w.heap.size + 2, 0, none⟩), .pointer (some ⟨w.heap.size + 3, 0, none⟩)]) (by simp) (by simp [go_sem]) ?_
  refine (act_d_returns _ _ _ _ _ (.int .i64 0) (by simp [go_sem]) (by simp [go_sem])).mono ?_
  rintro e u' w'' ⟨rfl, rfl, rfl⟩
  simp [Leaves, settle, results, Tryz.results69, go_sem]
  exact ⟨rfl, by repeat (first | exact Below.refl _ _ | refine Below.drew ?_ | refine Below.alloc ?_ (by simp; try omega) _)⟩

set_option maxHeartbeats 1000000 in
theorem act_else (o hn i m k n : Int) (hr : (sideB o hn && sideB i m) = true) (h1 : k ≠ 11) (h2 : k ≠ 12) (h3 : k ≠ 13) (h4 : k ≠ 14) (w : World) :
    Calls Tryz.prog 69 #[Half.val ⟨o, hn, i, m⟩, .int .i64 k, .int .u64 n] w fun e w' => e = .returned (actV (none)) ∧ Below w.heap.size w w' := by
  have hmf : ∀ (fn : Fn) (first cap : Array Value) (w : World), (Instr.makeFunc fn first cap).run Tryz.prog w = .ok (.func fn first cap) w := fun _ _ _ _ => rfl
  have H := Lib.hid hr
  clear hr
  have e_11 : (k == 11) = false := by simp [h1]
  have e_12 : (k == 12) = false := by simp [h2]
  have e_13 : (k == 13) = false := by simp [h3]
  have e_14 : (k == 14) = false := by simp [h4]
  clear h1 h2 h3 h4
  go_enter_defers Tryz.func69, Tryz.ntmps69
  go_wp2_with fail
  refine (right_any _ _ _ _ _).mono ?_
  rintro e w' ⟨rfl, rfl⟩
  rw [H.out]
  go_wp2_with fail
  refine (smust_yes _).mono ?_
  rintro e w' ⟨rfl, rfl⟩
  go_wp2_with fail
  refine (smust_no _).mono ?_
  rintro e w' ⟨rfl, rfl⟩
  go_wp2_with fail
  refine leaves_cons (f := 117) (args := #[.pointer (some ⟨w.heap.size + 4, 0, none⟩), .pointer (some ⟨w.heap.size + 1, 0, none⟩), .pointer (some ⟨w.heap.size + 2, 0, none⟩), .pointer (some ⟨w.heap.size + 3, 0, none⟩)]) (by simp) (by simp [go_sem]) ?_
  refine (act_d_panics _ [] _ _ _ _ _ _ _ _ _ _ _).mono ?_
  rintro e u' w'' ⟨rfl, rfl, rfl⟩
  simp [Leaves, settle, results, Tryz.results69, go_sem]
  exact ⟨rfl, by repeat (first | exact Below.refl _ _ | refine Below.drew ?_ | refine Below.alloc ?_ (by simp; try omega) _)⟩

theorem act_any (h : Half) (k n : Int) (w : World) :
    Calls Tryz.prog 69 #[h.val, .int .i64 k, .int .u64 n] w fun e w' => e = .returned (actV (actS h k n)) ∧ Below w.heap.size w w' := by
  obtain ⟨o, hn, i, m⟩ := h
  unfold actS rightB
  by_cases hr : (sideB o hn && sideB i m) = false
  · rw [if_pos hr]; exact act_wrong o hn i m k n hr w
  · rw [if_neg hr]
    replace hr : (sideB o hn && sideB i m) = true := by simpa using hr
    by_cases h11 : k = 11
    · subst h11
      rw [if_pos rfl]
      by_cases hn0 : n = 0
      · subst hn0; exact act_ask0 o hn i m hr w
      · rw [if_neg hn0]
        by_cases ho : o = 0
        · subst ho; exact act_ask hn i m n hr hn0 w
        · rw [if_neg ho]; exact act_ask_no o hn i m n hr hn0 ho w
    · rw [if_neg h11]
      by_cases h13 : k = 13
      · subst h13
        rw [if_pos rfl]
        by_cases ho : o = 0
        · subst ho; exact act_leave_no hn i m n hr w
        · rw [if_neg ho]; exact act_leave o hn i m n hr ho w
      · rw [if_neg h13]
        by_cases h12 : k = 12
        · subst h12
          rw [if_pos rfl]
          by_cases hi : i = 1
          · subst hi; exact act_grant o hn m n hr w
          · rw [if_neg hi]; exact act_grant_no o hn i m n hr hi w
        · rw [if_neg h12]
          by_cases h14 : k = 14
          · subst h14
            rw [if_pos rfl]
            by_cases hi : i = 0
            · subst hi; exact act_deny_no o hn m n hr w
            · rw [if_neg hi]; exact act_deny o hn i m n hr hi w
          · rw [if_neg h14]; exact act_else o hn i m k n hr h11 h12 h13 h14 w

end Go.Proofs.YthbjcihdlhkboaaGreatDoor
