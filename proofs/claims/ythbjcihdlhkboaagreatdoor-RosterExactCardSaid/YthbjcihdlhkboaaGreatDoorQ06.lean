/- A half: what it hears (subs.Hear). -/
import Derived.Test.YthbjcihdlhkboaaGreatDoorQ05
namespace Go.Proofs.YthbjcihdlhkboaaGreatDoor
set_option linter.unusedSimpArgs false
set_option linter.unusedVariables false
open Go.RowKit


theorem hear_d_panics (w : World) (older : List PanicEntry) (A X : Array Value) (TA TX : TypeId)
    (e0 m0 t0 t1 t2 t3 : Value) :
    CallsD Tryz.prog 121 #[.pointer (some ⟨w.heap.size + 3, 0, none⟩), .pointer (some ⟨w.heap.size + 1, 0, none⟩), .pointer (some ⟨w.heap.size + 2, 0, none⟩)] (.panicking ({ v := sfailsV, recovered := false } :: older))
      (((((w.alloc (.cells A TA)).alloc (.cells #[t0, t1, t2, t3] 52)).alloc (.cells #[m0] 3)).alloc (.cells #[e0] 24)).alloc (.cells X TX)) fun e u' w' =>
      e = .returned (.tuple #[]) ∧ u' = .panicking ({ v := sfailsV, recovered := true } :: older) ∧
       w' = (((((w.alloc (.cells A TA)).alloc (.cells #[.int .i64 0, .int .u64 0, .int .i64 0, .int .u64 0] 52)).alloc (.cells #[.int .i64 0] 3)).alloc (.cells #[.int .i64 1] 24)).alloc (.cells X TX)).alloc (.cells #[] 191) := by
  have hr := refused_fails (((((w.alloc (.cells A TA)).alloc (.cells #[t0, t1, t2, t3] 52)).alloc (.cells #[m0] 3)).alloc (.cells #[e0] 24)).alloc (.cells X TX))
  unfold sfailsV at *
  refine callsD_of_wpS Tryz.func121 rfl fun c₀ cs hu => ?_
  apply wpS_seq
  apply wpS_region
  simp [wpOpsS, go_sem, recoverD, hu, Tryz.ntmps121]
  refine hr.mono ?_
  rintro e w' ⟨rfl, rfl⟩
  simp [wpOpsS, go_sem, Exit.thenS]
  refine wpS_of_wp ?_
  go_wp2
  simp [bodyPostS, results, Tryz.results121]

theorem hear_d_returns (pe pt pm : Addr) (w : World) (e0 : Value) (hce : w.cell? pe = some e0) (hfe : w.frozen? pe = false) :
    CallsD Tryz.prog 121 #[.pointer (some pe), .pointer (some pt), .pointer (some pm)] .returning w fun e u' w' =>
      e = .returned (.tuple #[]) ∧ u' = .returning ∧ w' = w.setCell pe (.int .i64 0) := by
  have hr := refused_nil w
  refine callsD_of_wpS Tryz.func121 rfl fun c₀ cs hu => ?_
  apply wpS_seq
  apply wpS_region
  simp [wpOpsS, go_sem, recoverD, hu, Tryz.ntmps121]
  refine hr.mono ?_
  rintro e w' ⟨rfl, rfl⟩
  simp [wpOpsS, go_sem, Exit.thenS, hce, hfe]
  refine wpS_of_wp ?_
  go_wp2
  cases c₀
  simp_all [bodyPostS, results, Tryz.results121]

/-- What 'Hear' computes: none where it refuses. -/
def hearS (h : Half) (k n : Int) : Option (Half × Int) :=
  if rightB h = false then none
  else if n = 0 then none
  else if k = 1 then some (⟨h.o, h.n, 1, n⟩, 42)
  else if k = 2 then (if h.m = n then some (⟨h.o, h.n, 0, 0⟩, 44) else some (h, 0))
  else if k = 3 then (if h.o = 1 ∧ h.n = n then some (⟨2, h.n, h.i, h.m⟩, 43) else some (h, 0))
  else if k = 4 then (if h.n = n then some (⟨0, 0, h.i, h.m⟩, 45) else some (h, 0))
  else none

def hearV : Option (Half × Int) → Value
  | none => .tuple #[.agg #[.int .i64 0, .int .u64 0, .int .i64 0, .int .u64 0], .int .i64 0, .int .i64 1]
  | some (h, m) => .tuple #[h.val, .int .i64 m, .int .i64 0]

set_option maxHeartbeats 1000000 in
theorem hear_wrong (o hn i m k n : Int) (hr : (sideB o hn && sideB i m) = false) (w : World) :
    Calls Tryz.prog 71 #[Half.val ⟨o, hn, i, m⟩, .int .i64 k, .int .u64 n] w fun e w' => e = .returned (hearV (none)) ∧ Below w.heap.size w w' := by
  have hmf : ∀ (fn : Fn) (first cap : Array Value) (w : World), (Instr.makeFunc fn first cap).run Tryz.prog w = .ok (.func fn first cap) w := fun _ _ _ _ => rfl
  have H := Lib.hid hr
  clear hr
  go_enter_defers Tryz.func71, Tryz.ntmps71
  go_wp2_with fail
  refine (right_any _ _ _ _ _).mono ?_
  rintro e w' ⟨rfl, rfl⟩
  rw [H.out]
  go_wp2_with fail
  refine (smust_no _).mono ?_
  rintro e w' ⟨rfl, rfl⟩
  go_wp2_with fail
  refine leaves_cons (f := 121) (args := #[.pointer (some ⟨w.heap.size + 3, 0, none⟩), .pointer (some ⟨w.heap.size + 1, 0, none⟩), .pointer (some ⟨w.heap.size + 2, 0, none⟩)]) (by simp) (by simp [go_sem]) ?_
  refine (hear_d_panics _ [] _ _ _ _ _ _ _ _ _ _).mono ?_
  rintro e u' w'' ⟨rfl, rfl, rfl⟩
  simp [Leaves, settle, results, Tryz.results71, go_sem]
  exact ⟨rfl, by repeat (first | exact Below.refl _ _ | refine Below.drew ?_ | refine Below.alloc ?_ (by simp; try omega) _)⟩

set_option maxHeartbeats 1000000 in
theorem hear_zero (o hn i m k : Int) (hr : (sideB o hn && sideB i m) = true) (w : World) :
    Calls Tryz.prog 71 #[Half.val ⟨o, hn, i, m⟩, .int .i64 k, .int .u64 0] w fun e w' => e = .returned (hearV (none)) ∧ Below w.heap.size w w' := by
  have hmf : ∀ (fn : Fn) (first cap : Array Value) (w : World), (Instr.makeFunc fn first cap).run Tryz.prog w = .ok (.func fn first cap) w := fun _ _ _ _ => rfl
  have H := Lib.hid hr
  clear hr
  go_enter_defers Tryz.func71, Tryz.ntmps71
  go_wp2_with fail
  refine (right_any _ _ _ _ _).mono ?_
  rintro e w' ⟨rfl, rfl⟩
  rw [H.out]
  go_wp2_with fail
  refine (smust_no _).mono ?_
  rintro e w' ⟨rfl, rfl⟩
  go_wp2_with fail
  refine leaves_cons (f := 121) (args := #[.pointer (some ⟨w.heap.size + 3, 0, none⟩), .pointer (some ⟨w.heap.size + 1, 0, none⟩), .pointer (some ⟨w.heap.size + 2, 0, none⟩)]) (by simp) (by simp [go_sem]) ?_
  refine (hear_d_panics _ [] _ _ _ _ _ _ _ _ _ _).mono ?_
  rintro e u' w'' ⟨rfl, rfl, rfl⟩
  simp [Leaves, settle, results, Tryz.results71, go_sem]
  exact ⟨rfl, by repeat (first | exact Below.refl _ _ | refine Below.drew ?_ | refine Below.alloc ?_ (by simp; try omega) _)⟩

set_option maxHeartbeats 1000000 in
theorem hear_ask (o hn i m n : Int) (hr : (sideB o hn && sideB i m) = true) (h0 : n ≠ 0) (w : World) :
    Calls Tryz.prog 71 #[Half.val ⟨o, hn, i, m⟩, .int .i64 1, .int .u64 n] w fun e w' => e = .returned (hearV (some (⟨o, hn, 1, n⟩, 42))) ∧ Below w.heap.size w w' := by
  have hmf : ∀ (fn : Fn) (first cap : Array Value) (w : World), (Instr.makeFunc fn first cap).run Tryz.prog w = .ok (.func fn first cap) w := fun _ _ _ _ => rfl
  have H := Lib.hid hr
  clear hr
  have h_n : (n != 0) = true := by simp [h0]
  clear h0
  go_enter_defers Tryz.func71, Tryz.ntmps71
  go_wp2_with fail
  refine (right_any _ _ _ _ _).mono ?_
  rintro e w' ⟨rfl, rfl⟩
  rw [H.out]
  go_wp2_with fail
  refine (smust_yes _).mono ?_
  rintro e w' ⟨rfl, rfl⟩
  go_wp2_with fail
  go_region
  go_wp2_with fail
  refine leaves_cons (f := 121) (args := #[.pointer (some ⟨w.heap.size + 3, 0, none⟩), .pointer (some ⟨w.heap.size + 1, 0, none⟩), .pointer (some ⟨w.heap.size + 2, 0, none⟩)]) (by simp) (by simp [go_sem]) ?_
  refine (hear_d_returns _ _ _ _ (.int .i64 0) (by simp [go_sem]) (by simp [go_sem])).mono ?_
  rintro e u' w'' ⟨rfl, rfl, rfl⟩
  simp [Leaves, settle, results, Tryz.results71, go_sem]
  exact ⟨rfl, by repeat (first | exact Below.refl _ _ | refine Below.drew ?_ | refine Below.alloc ?_ (by simp; try omega) _)⟩

set_option maxHeartbeats 1000000 in
theorem hear_leave (o hn i n : Int) (hr : (sideB o hn && sideB i n) = true) (h0 : n ≠ 0) (w : World) :
    Calls Tryz.prog 71 #[Half.val ⟨o, hn, i, n⟩, .int .i64 2, .int .u64 n] w fun e w' => e = .returned (hearV (some (⟨o, hn, 0, 0⟩, 44))) ∧ Below w.heap.size w w' := by
  have hmf : ∀ (fn : Fn) (first cap : Array Value) (w : World), (Instr.makeFunc fn first cap).run Tryz.prog w = .ok (.func fn first cap) w := fun _ _ _ _ => rfl
  have H := Lib.hid hr
  clear hr
  have h_n : (n != 0) = true := by simp [h0]
  clear h0
  go_enter_defers Tryz.func71, Tryz.ntmps71
  go_wp2_with fail
  refine (right_any _ _ _ _ _).mono ?_
  rintro e w' ⟨rfl, rfl⟩
  rw [H.out]
  go_wp2_with fail
  refine (smust_yes _).mono ?_
  rintro e w' ⟨rfl, rfl⟩
  go_wp2_with fail
  go_region
  go_wp2_with fail
  refine leaves_cons (f := 121) (args := #[.pointer (some ⟨w.heap.size + 3, 0, none⟩), .pointer (some ⟨w.heap.size + 1, 0, none⟩), .pointer (some ⟨w.heap.size + 2, 0, none⟩)]) (by simp) (by simp [go_sem]) ?_
  refine (hear_d_returns _ _ _ _ (.int .i64 0) (by simp [go_sem]) (by simp [go_sem])).mono ?_
  rintro e u' w'' ⟨rfl, rfl, rfl⟩
  simp [Leaves, settle, results, Tryz.results71, go_sem]
  exact ⟨rfl, by repeat (first | exact Below.refl _ _ | refine Below.drew ?_ | refine Below.alloc ?_ (by simp; try omega) _)⟩

set_option maxHeartbeats 1000000 in
theorem hear_leave_no (o hn i m n : Int) (hr : (sideB o hn && sideB i m) = true) (h0 : n ≠ 0) (h1 : m ≠ n) (w : World) :
    Calls Tryz.prog 71 #[Half.val ⟨o, hn, i, m⟩, .int .i64 2, .int .u64 n] w fun e w' => e = .returned (hearV (some (⟨o, hn, i, m⟩, 0))) ∧ Below w.heap.size w w' := by
  have hmf : ∀ (fn : Fn) (first cap : Array Value) (w : World), (Instr.makeFunc fn first cap).run Tryz.prog w = .ok (.func fn first cap) w := fun _ _ _ _ => rfl
  have H := Lib.hid hr
  clear hr
  have e_m : (m == n) = false := by simp [h1]
  clear h1
  have h_n : (n != 0) = true := by simp [h0]
  clear h0
  go_enter_defers Tryz.func71, Tryz.ntmps71
  go_wp2_with fail
  refine (right_any _ _ _ _ _).mono ?_
  rintro e w' ⟨rfl, rfl⟩
  rw [H.out]
  go_wp2_with fail
  refine (smust_yes _).mono ?_
  rintro e w' ⟨rfl, rfl⟩
  go_wp2_with fail
  go_region
  go_wp2_with fail
  refine leaves_cons (f := 121) (args := #[.pointer (some ⟨w.heap.size + 3, 0, none⟩), .pointer (some ⟨w.heap.size + 1, 0, none⟩), .pointer (some ⟨w.heap.size + 2, 0, none⟩)]) (by simp) (by simp [go_sem]) ?_
  refine (hear_d_returns _ _ _ _ (.int .i64 0) (by simp [go_sem]) (by simp [go_sem])).mono ?_
  rintro e u' w'' ⟨rfl, rfl, rfl⟩
  simp [Leaves, settle, results, Tryz.results71, go_sem]
  exact ⟨rfl, by repeat (first | exact Below.refl _ _ | refine Below.drew ?_ | refine Below.alloc ?_ (by simp; try omega) _)⟩

set_option maxHeartbeats 1000000 in
theorem hear_grant (i m n : Int) (hr : (sideB 1 n && sideB i m) = true) (h0 : n ≠ 0) (w : World) :
    Calls Tryz.prog 71 #[Half.val ⟨1, n, i, m⟩, .int .i64 3, .int .u64 n] w fun e w' => e = .returned (hearV (some (⟨2, n, i, m⟩, 43))) ∧ Below w.heap.size w w' := by
  have hmf : ∀ (fn : Fn) (first cap : Array Value) (w : World), (Instr.makeFunc fn first cap).run Tryz.prog w = .ok (.func fn first cap) w := fun _ _ _ _ => rfl
  have H := Lib.hid hr
  clear hr
  have h_n : (n != 0) = true := by simp [h0]
  clear h0
  go_enter_defers Tryz.func71, Tryz.ntmps71
  go_wp2_with fail
  refine (right_any _ _ _ _ _).mono ?_
  rintro e w' ⟨rfl, rfl⟩
  rw [H.out]
  go_wp2_with fail
  refine (smust_yes _).mono ?_
  rintro e w' ⟨rfl, rfl⟩
  go_wp2_with fail
  go_region
  go_wp2_with fail
  refine leaves_cons (f := 121) (args := #[.pointer (some ⟨w.heap.size + 3, 0, none⟩), .pointer (some ⟨w.heap.size + 1, 0, none⟩), .pointer (some ⟨w.heap.size + 2, 0, none⟩)]) (by simp) (by simp [go_sem]) ?_
  refine (hear_d_returns _ _ _ _ (.int .i64 0) (by simp [go_sem]) (by simp [go_sem])).mono ?_
  rintro e u' w'' ⟨rfl, rfl, rfl⟩
  simp [Leaves, settle, results, Tryz.results71, go_sem]
  exact ⟨rfl, by repeat (first | exact Below.refl _ _ | refine Below.drew ?_ | refine Below.alloc ?_ (by simp; try omega) _)⟩

set_option maxHeartbeats 1000000 in
theorem hear_grant_no (hn i m n : Int) (hr : (sideB 1 hn && sideB i m) = true) (h0 : n ≠ 0) (h1 : hn ≠ n) (w : World) :
    Calls Tryz.prog 71 #[Half.val ⟨1, hn, i, m⟩, .int .i64 3, .int .u64 n] w fun e w' => e = .returned (hearV (some (⟨1, hn, i, m⟩, 0))) ∧ Below w.heap.size w w' := by
  have hmf : ∀ (fn : Fn) (first cap : Array Value) (w : World), (Instr.makeFunc fn first cap).run Tryz.prog w = .ok (.func fn first cap) w := fun _ _ _ _ => rfl
  have H := Lib.hid hr
  clear hr
  have e_m : (hn == n) = false := by simp [h1]
  clear h1
  have h_n : (n != 0) = true := by simp [h0]
  clear h0
  go_enter_defers Tryz.func71, Tryz.ntmps71
  go_wp2_with fail
  refine (right_any _ _ _ _ _).mono ?_
  rintro e w' ⟨rfl, rfl⟩
  rw [H.out]
  go_wp2_with fail
  refine (smust_yes _).mono ?_
  rintro e w' ⟨rfl, rfl⟩
  go_wp2_with fail
  go_region
  go_wp2_with fail
  refine leaves_cons (f := 121) (args := #[.pointer (some ⟨w.heap.size + 3, 0, none⟩), .pointer (some ⟨w.heap.size + 1, 0, none⟩), .pointer (some ⟨w.heap.size + 2, 0, none⟩)]) (by simp) (by simp [go_sem]) ?_
  refine (hear_d_returns _ _ _ _ (.int .i64 0) (by simp [go_sem]) (by simp [go_sem])).mono ?_
  rintro e u' w'' ⟨rfl, rfl, rfl⟩
  simp [Leaves, settle, results, Tryz.results71, go_sem]
  exact ⟨rfl, by repeat (first | exact Below.refl _ _ | refine Below.drew ?_ | refine Below.alloc ?_ (by simp; try omega) _)⟩

set_option maxHeartbeats 1000000 in
theorem hear_grant_out (o hn i m n : Int) (hr : (sideB o hn && sideB i m) = true) (h0 : n ≠ 0) (h1 : o ≠ 1) (w : World) :
    Calls Tryz.prog 71 #[Half.val ⟨o, hn, i, m⟩, .int .i64 3, .int .u64 n] w fun e w' => e = .returned (hearV (some (⟨o, hn, i, m⟩, 0))) ∧ Below w.heap.size w w' := by
  have hmf : ∀ (fn : Fn) (first cap : Array Value) (w : World), (Instr.makeFunc fn first cap).run Tryz.prog w = .ok (.func fn first cap) w := fun _ _ _ _ => rfl
  have H := Lib.hid hr
  clear hr
  have e_m : (o == 1) = false := by simp [h1]
  clear h1
  have h_n : (n != 0) = true := by simp [h0]
  clear h0
  go_enter_defers Tryz.func71, Tryz.ntmps71
  go_wp2_with fail
  refine (right_any _ _ _ _ _).mono ?_
  rintro e w' ⟨rfl, rfl⟩
  rw [H.out]
  go_wp2_with fail
  refine (smust_yes _).mono ?_
  rintro e w' ⟨rfl, rfl⟩
  go_wp2_with fail
  go_region
  go_wp2_with fail
  refine leaves_cons (f := 121) (args := #[.pointer (some ⟨w.heap.size + 3, 0, none⟩), .pointer (some ⟨w.heap.size + 1, 0, none⟩), .pointer (some ⟨w.heap.size + 2, 0, none⟩)]) (by simp) (by simp [go_sem]) ?_
  refine (hear_d_returns _ _ _ _ (.int .i64 0) (by simp [go_sem]) (by simp [go_sem])).mono ?_
  rintro e u' w'' ⟨rfl, rfl, rfl⟩
  simp [Leaves, settle, results, Tryz.results71, go_sem]
  exact ⟨rfl, by repeat (first | exact Below.refl _ _ | refine Below.drew ?_ | refine Below.alloc ?_ (by simp; try omega) _)⟩

set_option maxHeartbeats 1000000 in
theorem hear_deny (o i m n : Int) (hr : (sideB o n && sideB i m) = true) (h0 : n ≠ 0) (w : World) :
    Calls Tryz.prog 71 #[Half.val ⟨o, n, i, m⟩, .int .i64 4, .int .u64 n] w fun e w' => e = .returned (hearV (some (⟨0, 0, i, m⟩, 45))) ∧ Below w.heap.size w w' := by
  have hmf : ∀ (fn : Fn) (first cap : Array Value) (w : World), (Instr.makeFunc fn first cap).run Tryz.prog w = .ok (.func fn first cap) w := fun _ _ _ _ => rfl
  have H := Lib.hid hr
  clear hr
  have h_n : (n != 0) = true := by simp [h0]
  clear h0
  go_enter_defers Tryz.func71, Tryz.ntmps71
  go_wp2_with fail
  refine (right_any _ _ _ _ _).mono ?_
  rintro e w' ⟨rfl, rfl⟩
  rw [H.out]
  go_wp2_with fail
  refine (smust_yes _).mono ?_
  rintro e w' ⟨rfl, rfl⟩
  go_wp2_with fail
  go_region
  go_wp2_with fail
  refine leaves_cons (f := 121) (args := #[.pointer (some ⟨w.heap.size + 3, 0, none⟩), .pointer (some ⟨w.heap.size + 1, 0, none⟩), .pointer (some ⟨w.heap.size + 2, 0, none⟩)]) (by simp) (by simp [go_sem]) ?_
  refine (hear_d_returns _ _ _ _ (.int .i64 0) (by simp [go_sem]) (by simp [go_sem])).mono ?_
  rintro e u' w'' ⟨rfl, rfl, rfl⟩
  simp [Leaves, settle, results, Tryz.results71, go_sem]
  exact ⟨rfl, by repeat (first | exact Below.refl _ _ | refine Below.drew ?_ | refine Below.alloc ?_ (by simp; try omega) _)⟩

set_option maxHeartbeats 1000000 in
theorem hear_deny_no (o hn i m n : Int) (hr : (sideB o hn && sideB i m) = true) (h0 : n ≠ 0) (h1 : hn ≠ n) (w : World) :
    Calls Tryz.prog 71 #[Half.val ⟨o, hn, i, m⟩, .int .i64 4, .int .u64 n] w fun e w' => e = .returned (hearV (some (⟨o, hn, i, m⟩, 0))) ∧ Below w.heap.size w w' := by
  have hmf : ∀ (fn : Fn) (first cap : Array Value) (w : World), (Instr.makeFunc fn first cap).run Tryz.prog w = .ok (.func fn first cap) w := fun _ _ _ _ => rfl
  have H := Lib.hid hr
  clear hr
  have e_m : (hn == n) = false := by simp [h1]
  clear h1
  have h_n : (n != 0) = true := by simp [h0]
  clear h0
  go_enter_defers Tryz.func71, Tryz.ntmps71
  go_wp2_with fail
  refine (right_any _ _ _ _ _).mono ?_
  rintro e w' ⟨rfl, rfl⟩
  rw [H.out]
  go_wp2_with fail
  refine (smust_yes _).mono ?_
  rintro e w' ⟨rfl, rfl⟩
  go_wp2_with fail
  go_region
  go_wp2_with fail
  refine leaves_cons (f := 121) (args := #[.pointer (some ⟨w.heap.size + 3, 0, none⟩), .pointer (some ⟨w.heap.size + 1, 0, none⟩), .pointer (some ⟨w.heap.size + 2, 0, none⟩)]) (by simp) (by simp [go_sem]) ?_
  refine (hear_d_returns _ _ _ _ (.int .i64 0) (by simp [go_sem]) (by simp [go_sem])).mono ?_
  rintro e u' w'' ⟨rfl, rfl, rfl⟩
  simp [Leaves, settle, results, Tryz.results71, go_sem]
  exact ⟨rfl, by repeat (first | exact Below.refl _ _ | refine Below.drew ?_ | refine Below.alloc ?_ (by simp; try omega) _)⟩

set_option maxHeartbeats 1000000 in
theorem hear_else (o hn i m k n : Int) (hr : (sideB o hn && sideB i m) = true) (h0 : n ≠ 0) (h1 : k ≠ 1) (h2 : k ≠ 2) (h3 : k ≠ 3) (h4 : k ≠ 4) (w : World) :
    Calls Tryz.prog 71 #[Half.val ⟨o, hn, i, m⟩, .int .i64 k, .int .u64 n] w fun e w' => e = .returned (hearV (none)) ∧ Below w.heap.size w w' := by
  have hmf : ∀ (fn : Fn) (first cap : Array Value) (w : World), (Instr.makeFunc fn first cap).run Tryz.prog w = .ok (.func fn first cap) w := fun _ _ _ _ => rfl
  have H := Lib.hid hr
  clear hr
  have e_1 : (k == 1) = false := by simp [h1]
  have e_2 : (k == 2) = false := by simp [h2]
  have e_3 : (k == 3) = false := by simp [h3]
  have e_4 : (k == 4) = false := by simp [h4]
  clear h1 h2 h3 h4
  have h_n : (n != 0) = true := by simp [h0]
  clear h0
  go_enter_defers Tryz.func71, Tryz.ntmps71
  go_wp2_with fail
  refine (right_any _ _ _ _ _).mono ?_
  rintro e w' ⟨rfl, rfl⟩
  rw [H.out]
  go_wp2_with fail
  refine (smust_yes _).mono ?_
  rintro e w' ⟨rfl, rfl⟩
  go_wp2_with fail
  refine (smust_no _).mono ?_
  rintro e w' ⟨rfl, rfl⟩
  go_wp2_with fail
  refine leaves_cons (f := 121) (args := #[.pointer (some ⟨w.heap.size + 3, 0, none⟩), .pointer (some ⟨w.heap.size + 1, 0, none⟩), .pointer (some ⟨w.heap.size + 2, 0, none⟩)]) (by simp) (by simp [go_sem]) ?_
  refine (hear_d_panics _ [] _ _ _ _ _ _ _ _ _ _).mono ?_
  rintro e u' w'' ⟨rfl, rfl, rfl⟩
  simp [Leaves, settle, results, Tryz.results71, go_sem]
  exact ⟨rfl, by repeat (first | exact Below.refl _ _ | refine Below.drew ?_ | refine Below.alloc ?_ (by simp; try omega) _)⟩

theorem hear_any (h : Half) (k n : Int) (w : World) :
    Calls Tryz.prog 71 #[h.val, .int .i64 k, .int .u64 n] w fun e w' => e = .returned (hearV (hearS h k n)) ∧ Below w.heap.size w w' := by
  obtain ⟨o, hn, i, m⟩ := h
  unfold hearS rightB
  by_cases hr : (sideB o hn && sideB i m) = false
  · rw [if_pos hr]; exact hear_wrong o hn i m k n hr w
  · rw [if_neg hr]
    replace hr : (sideB o hn && sideB i m) = true := by simpa using hr
    by_cases hn0 : n = 0
    · subst hn0; rw [if_pos rfl]; exact hear_zero o hn i m k hr w
    · rw [if_neg hn0]
      by_cases h1 : k = 1
      · subst h1; rw [if_pos rfl]; exact hear_ask o hn i m n hr hn0 w
      · rw [if_neg h1]
        by_cases h2 : k = 2
        · subst h2
          rw [if_pos rfl]
          by_cases hm : m = n
          · subst hm; rw [if_pos rfl]; exact hear_leave o hn i m hr hn0 w
          · rw [if_neg hm]; exact hear_leave_no o hn i m n hr hn0 hm w
        · rw [if_neg h2]
          by_cases h3 : k = 3
          · subst h3
            rw [if_pos rfl]
            by_cases ho : o = 1
            · subst ho
              by_cases hm : hn = n
              · subst hm; rw [if_pos ⟨rfl, rfl⟩]; exact hear_grant i m hn hr hn0 w
              · rw [if_neg (fun h => hm h.2)]; exact hear_grant_no hn i m n hr hn0 hm w
            · rw [if_neg (fun h => ho h.1)]; exact hear_grant_out o hn i m n hr hn0 ho w
          · rw [if_neg h3]
            by_cases h4 : k = 4
            · subst h4
              rw [if_pos rfl]
              by_cases hm : hn = n
              · subst hm; rw [if_pos rfl]; exact hear_deny o i m hn hr hn0 w
              · rw [if_neg hm]; exact hear_deny_no o hn i m n hr hn0 hm w
            · rw [if_neg h4]; exact hear_else o hn i m k n hr hn0 h1 h2 h3 h4 w

end Go.Proofs.YthbjcihdlhkboaaGreatDoor
