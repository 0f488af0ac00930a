import Derived.Test.YtgaimcdkbknljaaA3
import Derived.Test.YtgaimcdkbknljaaShelf
import Derived.Deep.AppendLies
namespace Go.Proofs.Ytgaimcdkbknljaa
set_option linter.unusedSimpArgs false
set_option linter.unusedVariables false
open Go.RowKit

/-- A half's name. -/
def stateL (o i : Int) : List UInt8 :=
  if o = 0 then (if i = 0 then [78, 111, 110, 101] else if i = 1 then [78, 111, 110, 101, 32, 43, 32, 80, 101, 110, 100, 105, 110, 103, 32, 73, 110] else [70, 114, 111, 109])
  else if o = 1 then (if i = 0 then [78, 111, 110, 101, 32, 43, 32, 80, 101, 110, 100, 105, 110, 103, 32, 79, 117, 116] else if i = 1 then [78, 111, 110, 101, 32, 43, 32, 80, 101, 110, 100, 105, 110, 103, 32, 79, 117, 116, 43, 73, 110] else [70, 114, 111, 109, 32, 43, 32, 80, 101, 110, 100, 105, 110, 103, 32, 79, 117, 116])
  else (if i = 0 then [84, 111] else if i = 1 then [84, 111, 32, 43, 32, 80, 101, 110, 100, 105, 110, 103, 32, 73, 110] else [66, 111, 116, 104])
def stateS (h : Half) : List UInt8 := if rightB h = false then [] else stateL h.o h.i

theorem ownsRow_cap_le {w : World} {base : Nat} {e : TypeId} {size g n cap : Nat} {xs : List Value} (h : w.ownsRow base e size (.slice (some ⟨g, 0, none⟩) n cap) n xs) : n ≤ cap := by
  rcases h.2 with ⟨h, _⟩ | ⟨g', cap', cur, hv, _, _, h, _⟩
  · cases h
  · cases hv; exact h

theorem join1 (g c : Nat) (x : ByteArray) (w : World) (h0 : w.cell? ⟨g, 0, none⟩ = some (.string x)) (hg : g < w.heap.size) (hc : 1 ≤ c) (hx : x.size ≤ 10) :
    Calls Try.prog 25 #[.slice (some ⟨g, 0, none⟩) 1 c, .string ⟨#[43]⟩] w fun e w' => e = .returned (.string x) ∧ Below w.heap.size w w' := by
  refine (Try.strings_Join g 0 c [x] ⟨#[43]⟩ w ?_ hg (by simp) hc ?_).mono ?_
  · intro j y hy
    match j, hy with
    | 0, hy => simp at hy; subst hy; exact h0
  · simp [Lib.join]; have : x.data.size = x.size := rfl; omega
  · rintro e w' ⟨rfl, hb⟩
    exact ⟨by simp [Lib.join], hb⟩

theorem join2 (g c : Nat) (x y : ByteArray) (w : World) (h0 : w.cell? ⟨g, 0, none⟩ = some (.string x)) (h1 : w.cell? ⟨g, 1, none⟩ = some (.string y)) (hg : g < w.heap.size) (hc : 2 ≤ c) (hx : x.size + y.size ≤ 10) :
    Calls Try.prog 25 #[.slice (some ⟨g, 0, none⟩) 2 c, .string ⟨#[43]⟩] w fun e w' => e = .returned (.string ⟨(x.data.toList ++ 43 :: y.data.toList).toArray⟩) ∧ Below w.heap.size w w' := by
  refine (Try.strings_Join g 0 c [x, y] ⟨#[43]⟩ w ?_ hg (by simp) hc ?_).mono ?_
  · intro j z hz
    match j, hz with
    | 0, hz => simp at hz; subst hz; exact h0
    | 1, hz => simp at hz; subst hz; exact h1
  · simp [Lib.join]; have : x.data.size = x.size := rfl; have : y.data.size = y.size := rfl; omega
  · rintro e w' ⟨rfl, hb⟩
    exact ⟨by simp [Lib.join], hb⟩

theorem Try.info9 : (Try.prog.info? 9).map (fun i => (i.zero, i.size, i.bytes)) = some (some (.string ⟨#[]⟩), 1, 16) := by kernel_rfl

set_option maxHeartbeats 1000000 in
theorem state_wrong (o hn i m : Int) (hr : (sideB o hn && sideB i m) = false) (w : World) :
    Calls Try.prog 13 #[Half.val ⟨o, hn, i, m⟩] w fun e w' => e = .returned (.string ⟨#[]⟩) ∧ Below w.heap.size w w' := by
  have H := Lib.hid hr
  clear hr
  go_enter Try.func13, Try.ntmps13
  go_wp2_with fail
  refine (right_any _ _ _ _ _).mono ?_
  rintro e w' ⟨rfl, rfl⟩
  rw [H.out]
  go_wp2_with fail
  go_ret
  exact ⟨rfl, by repeat (first | exact Below.refl _ _ | assumption | refine Below.drew ?_ | refine Below.alloc ?_ (by first | omega | (simp; omega) | simp) _)⟩

set_option maxHeartbeats 1000000 in
theorem state_00 (hn m : Int) (hr : (sideB 0 hn && sideB 0 m) = true) (w : World) :
    Calls Try.prog 13 #[Half.val ⟨0, hn, 0, m⟩] w fun e w' => e = .returned (.string ⟨#[78, 111, 110, 101]⟩) ∧ Below w.heap.size w w' := by
  have H := Lib.hid hr
  clear hr
  have hix : ∀ w, (Instr.index 63 (.agg #[.string ⟨#[78, 111, 110, 101]⟩, .string ⟨#[78, 111, 110, 101]⟩, .string ⟨#[70, 114, 111, 109]⟩, .string ⟨#[78, 111, 110, 101]⟩, .string ⟨#[78, 111, 110, 101]⟩, .string ⟨#[70, 114, 111, 109]⟩, .string ⟨#[84, 111]⟩, .string ⟨#[84, 111]⟩, .string ⟨#[66, 111, 116, 104]⟩]) (.int .i64 0)).run Try.prog w = .ok (.agg #[.string ⟨#[78, 111, 110, 101]⟩, .string ⟨#[78, 111, 110, 101]⟩, .string ⟨#[70, 114, 111, 109]⟩]) w := fun _ => by kernel_rfl
  have hiy : ∀ w, (Instr.index 62 (.agg #[.string ⟨#[78, 111, 110, 101]⟩, .string ⟨#[78, 111, 110, 101]⟩, .string ⟨#[70, 114, 111, 109]⟩]) (.int .i64 0)).run Try.prog w = .ok (.string ⟨#[78, 111, 110, 101]⟩) w := fun _ => by kernel_rfl
  go_enter Try.func13, Try.ntmps13
  go_wp2_with fail
  refine (right_any _ _ _ _ _).mono ?_
  rintro e w' ⟨rfl, rfl⟩
  rw [H.out]
  go_wp2_with fail
  go_region
  go_wp2_with fail
  go_ret
  exact ⟨rfl, by repeat (first | exact Below.refl _ _ | assumption | refine Below.drew ?_ | refine Below.alloc ?_ (by first | omega | (simp; omega) | simp) _)⟩

set_option maxHeartbeats 1000000 in
theorem state_01 (hn m : Int) (hr : (sideB 0 hn && sideB 1 m) = true) (w : World) :
    Calls Try.prog 13 #[Half.val ⟨0, hn, 1, m⟩] w fun e w' => e = .returned (.string ⟨#[78, 111, 110, 101, 32, 43, 32, 80, 101, 110, 100, 105, 110, 103, 32, 73, 110]⟩) ∧ Below w.heap.size w w' := by
  have H := Lib.hid hr
  clear hr
  have hix : ∀ w, (Instr.index 63 (.agg #[.string ⟨#[78, 111, 110, 101]⟩, .string ⟨#[78, 111, 110, 101]⟩, .string ⟨#[70, 114, 111, 109]⟩, .string ⟨#[78, 111, 110, 101]⟩, .string ⟨#[78, 111, 110, 101]⟩, .string ⟨#[70, 114, 111, 109]⟩, .string ⟨#[84, 111]⟩, .string ⟨#[84, 111]⟩, .string ⟨#[66, 111, 116, 104]⟩]) (.int .i64 0)).run Try.prog w = .ok (.agg #[.string ⟨#[78, 111, 110, 101]⟩, .string ⟨#[78, 111, 110, 101]⟩, .string ⟨#[70, 114, 111, 109]⟩]) w := fun _ => by kernel_rfl
  have hiy : ∀ w, (Instr.index 62 (.agg #[.string ⟨#[78, 111, 110, 101]⟩, .string ⟨#[78, 111, 110, 101]⟩, .string ⟨#[70, 114, 111, 109]⟩]) (.int .i64 1)).run Try.prog w = .ok (.string ⟨#[78, 111, 110, 101]⟩) w := fun _ => by kernel_rfl
  go_enter Try.func13, Try.ntmps13
  go_wp2_with fail
  refine (right_any _ _ _ _ _).mono ?_
  rintro e w' ⟨rfl, rfl⟩
  rw [H.out]
  go_wp2_with fail
  go_region
  clear hix hiy
  obtain ⟨i0, hi, hz0, hz1, hz2⟩ := info_parts Try.info9
  go_wp2_with (at_builtin; refine wpList_append_lies _ rfl _ _ 53 rfl w.heap.size 9 i0 (.string ⟨#[]⟩) 1 16 Try.underlying53 hi hz0 hz1 hz2 rfl (by decide) _ 0 [] rfl (World.ownsRow_nil _ _ _ _) ⟨w.heap.size + 2, 0, none⟩ 1 1 [.string ⟨#[73, 110]⟩] rfl rfl ?c1 ?c2 (by decide) (by decide) (by decide) ?c5 _ rfl ?_)
  case c1 => intro j u hu; match j, hu with | 0, hu => simpa [go_sem, Addr.add] using hu
  case c2 => intro u hu; simp at hu; subst hu; rfl
  case c5 => simp; omega
  intro g cap w1 hown hgrow hat hlt
  have hB : Below w.heap.size w w1 := Below.grown (by repeat (first | exact Below.refl _ _ | assumption | refine Below.drew ?_ | refine Below.alloc ?_ (by first | omega | (simp; omega) | simp) _)) hgrow (by simp; omega) (fun k hk => by simp [Value.ownBlock] at hk)
  have hgb := (hown.lt g rfl).1
  have hc0 : w1.cell? ⟨w.heap.size, 2, none⟩ = some (.int .i64 1) := (World.cell?_of_block (w := _) (hgrow.block w.heap.size (by simp; omega) (by simp [Value.ownBlock]))).trans (by simp [go_sem])
  have hs1 : w.heap.size < w1.heap.size := by omega
  have HH := Lib.hid (And.intro hgrow hat)
  clear hgrow hat
  have hcl := hown.cells (g := g) rfl
  have hk0 : w1.cell? ⟨g, 0, none⟩ = some (.string ⟨#[73, 110]⟩) := hcl 0 _ rfl
  have hcap := ownsRow_cap_le hown
  clear hcl
  go_wp2_with fail
  refine (join1 g _ ⟨#[73, 110]⟩ _ hk0 (by assumption) (by omega) (by decide)).mono ?_
  rintro e w' ⟨rfl, hb⟩
  go_wp2_with fail
  go_ret
  exact ⟨rfl, Below.trans hB (Below.mono hb (by have := hB.size; omega))⟩

set_option maxHeartbeats 1000000 in
theorem state_02 (hn m : Int) (hr : (sideB 0 hn && sideB 2 m) = true) (w : World) :
    Calls Try.prog 13 #[Half.val ⟨0, hn, 2, m⟩] w fun e w' => e = .returned (.string ⟨#[70, 114, 111, 109]⟩) ∧ Below w.heap.size w w' := by
  have H := Lib.hid hr
  clear hr
  have hix : ∀ w, (Instr.index 63 (.agg #[.string ⟨#[78, 111, 110, 101]⟩, .string ⟨#[78, 111, 110, 101]⟩, .string ⟨#[70, 114, 111, 109]⟩, .string ⟨#[78, 111, 110, 101]⟩, .string ⟨#[78, 111, 110, 101]⟩, .string ⟨#[70, 114, 111, 109]⟩, .string ⟨#[84, 111]⟩, .string ⟨#[84, 111]⟩, .string ⟨#[66, 111, 116, 104]⟩]) (.int .i64 0)).run Try.prog w = .ok (.agg #[.string ⟨#[78, 111, 110, 101]⟩, .string ⟨#[78, 111, 110, 101]⟩, .string ⟨#[70, 114, 111, 109]⟩]) w := fun _ => by kernel_rfl
  have hiy : ∀ w, (Instr.index 62 (.agg #[.string ⟨#[78, 111, 110, 101]⟩, .string ⟨#[78, 111, 110, 101]⟩, .string ⟨#[70, 114, 111, 109]⟩]) (.int .i64 2)).run Try.prog w = .ok (.string ⟨#[70, 114, 111, 109]⟩) w := fun _ => by kernel_rfl
  go_enter Try.func13, Try.ntmps13
  go_wp2_with fail
  refine (right_any _ _ _ _ _).mono ?_
  rintro e w' ⟨rfl, rfl⟩
  rw [H.out]
  go_wp2_with fail
  go_region
  go_wp2_with fail
  go_ret
  exact ⟨rfl, by repeat (first | exact Below.refl _ _ | assumption | refine Below.drew ?_ | refine Below.alloc ?_ (by first | omega | (simp; omega) | simp) _)⟩

set_option maxHeartbeats 1000000 in
theorem state_10 (hn m : Int) (hr : (sideB 1 hn && sideB 0 m) = true) (w : World) :
    Calls Try.prog 13 #[Half.val ⟨1, hn, 0, m⟩] w fun e w' => e = .returned (.string ⟨#[78, 111, 110, 101, 32, 43, 32, 80, 101, 110, 100, 105, 110, 103, 32, 79, 117, 116]⟩) ∧ Below w.heap.size w w' := by
  have H := Lib.hid hr
  clear hr
  have hix : ∀ w, (Instr.index 63 (.agg #[.string ⟨#[78, 111, 110, 101]⟩, .string ⟨#[78, 111, 110, 101]⟩, .string ⟨#[70, 114, 111, 109]⟩, .string ⟨#[78, 111, 110, 101]⟩, .string ⟨#[78, 111, 110, 101]⟩, .string ⟨#[70, 114, 111, 109]⟩, .string ⟨#[84, 111]⟩, .string ⟨#[84, 111]⟩, .string ⟨#[66, 111, 116, 104]⟩]) (.int .i64 1)).run Try.prog w = .ok (.agg #[.string ⟨#[78, 111, 110, 101]⟩, .string ⟨#[78, 111, 110, 101]⟩, .string ⟨#[70, 114, 111, 109]⟩]) w := fun _ => by kernel_rfl
  have hiy : ∀ w, (Instr.index 62 (.agg #[.string ⟨#[78, 111, 110, 101]⟩, .string ⟨#[78, 111, 110, 101]⟩, .string ⟨#[70, 114, 111, 109]⟩]) (.int .i64 0)).run Try.prog w = .ok (.string ⟨#[78, 111, 110, 101]⟩) w := fun _ => by kernel_rfl
  go_enter Try.func13, Try.ntmps13
  go_wp2_with fail
  refine (right_any _ _ _ _ _).mono ?_
  rintro e w' ⟨rfl, rfl⟩
  rw [H.out]
  go_wp2_with fail
  go_region
  clear hix hiy
  obtain ⟨i0, hi, hz0, hz1, hz2⟩ := info_parts Try.info9
  go_wp2_with (at_builtin; refine wpList_append_lies _ rfl _ _ 53 rfl w.heap.size 9 i0 (.string ⟨#[]⟩) 1 16 Try.underlying53 hi hz0 hz1 hz2 rfl (by decide) _ 0 [] rfl (World.ownsRow_nil _ _ _ _) ⟨w.heap.size + 2, 0, none⟩ 1 1 [.string ⟨#[79, 117, 116]⟩] rfl rfl ?c1 ?c2 (by decide) (by decide) (by decide) ?c5 _ rfl ?_)
  case c1 => intro j u hu; match j, hu with | 0, hu => simpa [go_sem, Addr.add] using hu
  case c2 => intro u hu; simp at hu; subst hu; rfl
  case c5 => simp; omega
  intro g cap w1 hown hgrow hat hlt
  have hB : Below w.heap.size w w1 := Below.grown (by repeat (first | exact Below.refl _ _ | assumption | refine Below.drew ?_ | refine Below.alloc ?_ (by first | omega | (simp; omega) | simp) _)) hgrow (by simp; omega) (fun k hk => by simp [Value.ownBlock] at hk)
  have hgb := (hown.lt g rfl).1
  have hc0 : w1.cell? ⟨w.heap.size, 2, none⟩ = some (.int .i64 0) := (World.cell?_of_block (w := _) (hgrow.block w.heap.size (by simp; omega) (by simp [Value.ownBlock]))).trans (by simp [go_sem])
  have hs1 : w.heap.size < w1.heap.size := by omega
  have HH := Lib.hid (And.intro hgrow hat)
  clear hgrow hat
  have hcl := hown.cells (g := g) rfl
  have hk0 : w1.cell? ⟨g, 0, none⟩ = some (.string ⟨#[79, 117, 116]⟩) := hcl 0 _ rfl
  have hcap := ownsRow_cap_le hown
  clear hcl
  go_wp2_with fail
  refine (join1 g _ ⟨#[79, 117, 116]⟩ _ hk0 (by assumption) (by omega) (by decide)).mono ?_
  rintro e w' ⟨rfl, hb⟩
  go_wp2_with fail
  go_ret
  exact ⟨rfl, Below.trans hB (Below.mono hb (by have := hB.size; omega))⟩

set_option maxHeartbeats 1000000 in
theorem state_11 (hn m : Int) (hr : (sideB 1 hn && sideB 1 m) = true) (w : World) :
    Calls Try.prog 13 #[Half.val ⟨1, hn, 1, m⟩] w fun e w' => e = .returned (.string ⟨#[78, 111, 110, 101, 32, 43, 32, 80, 101, 110, 100, 105, 110, 103, 32, 79, 117, 116, 43, 73, 110]⟩) ∧ Below w.heap.size w w' := by
  have H := Lib.hid hr
  clear hr
  have hix : ∀ w, (Instr.index 63 (.agg #[.string ⟨#[78, 111, 110, 101]⟩, .string ⟨#[78, 111, 110, 101]⟩, .string ⟨#[70, 114, 111, 109]⟩, .string ⟨#[78, 111, 110, 101]⟩, .string ⟨#[78, 111, 110, 101]⟩, .string ⟨#[70, 114, 111, 109]⟩, .string ⟨#[84, 111]⟩, .string ⟨#[84, 111]⟩, .string ⟨#[66, 111, 116, 104]⟩]) (.int .i64 1)).run Try.prog w = .ok (.agg #[.string ⟨#[78, 111, 110, 101]⟩, .string ⟨#[78, 111, 110, 101]⟩, .string ⟨#[70, 114, 111, 109]⟩]) w := fun _ => by kernel_rfl
  have hiy : ∀ w, (Instr.index 62 (.agg #[.string ⟨#[78, 111, 110, 101]⟩, .string ⟨#[78, 111, 110, 101]⟩, .string ⟨#[70, 114, 111, 109]⟩]) (.int .i64 1)).run Try.prog w = .ok (.string ⟨#[78, 111, 110, 101]⟩) w := fun _ => by kernel_rfl
  go_enter Try.func13, Try.ntmps13
  go_wp2_with fail
  refine (right_any _ _ _ _ _).mono ?_
  rintro e w' ⟨rfl, rfl⟩
  rw [H.out]
  go_wp2_with fail
  go_region
  clear hix hiy
  obtain ⟨i0, hi, hz0, hz1, hz2⟩ := info_parts Try.info9
  go_wp2_with (at_builtin; refine wpList_append_lies _ rfl _ _ 53 rfl w.heap.size 9 i0 (.string ⟨#[]⟩) 1 16 Try.underlying53 hi hz0 hz1 hz2 rfl (by decide) _ 0 [] rfl (World.ownsRow_nil _ _ _ _) ⟨w.heap.size + 2, 0, none⟩ 1 1 [.string ⟨#[79, 117, 116]⟩] rfl rfl ?c1 ?c2 (by decide) (by decide) (by decide) ?c5 _ rfl ?_)
  case c1 => intro j u hu; match j, hu with | 0, hu => simpa [go_sem, Addr.add] using hu
  case c2 => intro u hu; simp at hu; subst hu; rfl
  case c5 => simp; omega
  intro g cap w1 hown hgrow hat hlt
  have hB : Below w.heap.size w w1 := Below.grown (by repeat (first | exact Below.refl _ _ | assumption | refine Below.drew ?_ | refine Below.alloc ?_ (by first | omega | (simp; omega) | simp) _)) hgrow (by simp; omega) (fun k hk => by simp [Value.ownBlock] at hk)
  have hgb := (hown.lt g rfl).1
  have hc0 : w1.cell? ⟨w.heap.size, 2, none⟩ = some (.int .i64 1) := (World.cell?_of_block (w := _) (hgrow.block w.heap.size (by simp; omega) (by simp [Value.ownBlock]))).trans (by simp [go_sem])
  have hs1 : w.heap.size < w1.heap.size := by omega
  have HH := Lib.hid (And.intro hgrow hat)
  clear hgrow hat
  go_wp2_with (at_builtin; refine wpList_append_lies _ rfl _ _ 53 rfl w.heap.size 9 i0 (.string ⟨#[]⟩) 1 16 Try.underlying53 hi hz0 hz1 hz2 rfl (by decide) _ 1 [.string ⟨#[79, 117, 116]⟩] rfl (hown.alloc _) ⟨w1.heap.size, 0, none⟩ 1 1 [.string ⟨#[73, 110]⟩] rfl rfl ?c1 ?c2 (by decide) (by decide) (by decide) ?c5 _ rfl ?_)
  case c1 => intro j u hu; match j, hu with | 0, hu => simpa [go_sem, Addr.add] using hu
  case c2 => intro u hu; simp at hu; subst hu; rfl
  case c5 => simp; omega
  intro g2 cap2 w2 hown2 hgrow2 hat2 hlt2
  have hB2 : Below w.heap.size w w2 := Below.grown (by repeat (first | exact Below.refl _ _ | assumption | refine Below.drew ?_ | refine Below.alloc ?_ (by first | omega | (simp; omega) | simp) _)) hgrow2 (by simp; omega) (fun k hk => by simp [Value.ownBlock] at hk; omega)
  have HH2 := Lib.hid (And.intro hgrow2 hat2)
  clear hgrow2 hat2
  have hcl := hown2.cells (g := g2) rfl
  have hk0 : w2.cell? ⟨g2, 0, none⟩ = some (.string ⟨#[79, 117, 116]⟩) := hcl 0 _ rfl
  have hk1 : w2.cell? ⟨g2, 1, none⟩ = some (.string ⟨#[73, 110]⟩) := hcl 1 _ rfl
  have hcap := ownsRow_cap_le hown2
  clear hcl
  go_wp2_with fail
  refine (join2 g2 _ ⟨#[79, 117, 116]⟩ ⟨#[73, 110]⟩ _ hk0 hk1 (by assumption) (by omega) (by decide)).mono ?_
  rintro e w' ⟨rfl, hb⟩
  go_wp2_with fail
  go_ret
  exact ⟨rfl, Below.trans hB2 (Below.mono hb (by have := hB2.size; omega))⟩

set_option maxHeartbeats 1000000 in
theorem state_12 (hn m : Int) (hr : (sideB 1 hn && sideB 2 m) = true) (w : World) :
    Calls Try.prog 13 #[Half.val ⟨1, hn, 2, m⟩] w fun e w' => e = .returned (.string ⟨#[70, 114, 111, 109, 32, 43, 32, 80, 101, 110, 100, 105, 110, 103, 32, 79, 117, 116]⟩) ∧ Below w.heap.size w w' := by
  have H := Lib.hid hr
  clear hr
  have hix : ∀ w, (Instr.index 63 (.agg #[.string ⟨#[78, 111, 110, 101]⟩, .string ⟨#[78, 111, 110, 101]⟩, .string ⟨#[70, 114, 111, 109]⟩, .string ⟨#[78, 111, 110, 101]⟩, .string ⟨#[78, 111, 110, 101]⟩, .string ⟨#[70, 114, 111, 109]⟩, .string ⟨#[84, 111]⟩, .string ⟨#[84, 111]⟩, .string ⟨#[66, 111, 116, 104]⟩]) (.int .i64 1)).run Try.prog w = .ok (.agg #[.string ⟨#[78, 111, 110, 101]⟩, .string ⟨#[78, 111, 110, 101]⟩, .string ⟨#[70, 114, 111, 109]⟩]) w := fun _ => by kernel_rfl
  have hiy : ∀ w, (Instr.index 62 (.agg #[.string ⟨#[78, 111, 110, 101]⟩, .string ⟨#[78, 111, 110, 101]⟩, .string ⟨#[70, 114, 111, 109]⟩]) (.int .i64 2)).run Try.prog w = .ok (.string ⟨#[70, 114, 111, 109]⟩) w := fun _ => by kernel_rfl
  go_enter Try.func13, Try.ntmps13
  go_wp2_with fail
  refine (right_any _ _ _ _ _).mono ?_
  rintro e w' ⟨rfl, rfl⟩
  rw [H.out]
  go_wp2_with fail
  go_region
  clear hix hiy
  obtain ⟨i0, hi, hz0, hz1, hz2⟩ := info_parts Try.info9
  go_wp2_with (at_builtin; refine wpList_append_lies _ rfl _ _ 53 rfl w.heap.size 9 i0 (.string ⟨#[]⟩) 1 16 Try.underlying53 hi hz0 hz1 hz2 rfl (by decide) _ 0 [] rfl (World.ownsRow_nil _ _ _ _) ⟨w.heap.size + 2, 0, none⟩ 1 1 [.string ⟨#[79, 117, 116]⟩] rfl rfl ?c1 ?c2 (by decide) (by decide) (by decide) ?c5 _ rfl ?_)
  case c1 => intro j u hu; match j, hu with | 0, hu => simpa [go_sem, Addr.add] using hu
  case c2 => intro u hu; simp at hu; subst hu; rfl
  case c5 => simp; omega
  intro g cap w1 hown hgrow hat hlt
  have hB : Below w.heap.size w w1 := Below.grown (by repeat (first | exact Below.refl _ _ | assumption | refine Below.drew ?_ | refine Below.alloc ?_ (by first | omega | (simp; omega) | simp) _)) hgrow (by simp; omega) (fun k hk => by simp [Value.ownBlock] at hk)
  have hgb := (hown.lt g rfl).1
  have hc0 : w1.cell? ⟨w.heap.size, 2, none⟩ = some (.int .i64 2) := (World.cell?_of_block (w := _) (hgrow.block w.heap.size (by simp; omega) (by simp [Value.ownBlock]))).trans (by simp [go_sem])
  have hs1 : w.heap.size < w1.heap.size := by omega
  have HH := Lib.hid (And.intro hgrow hat)
  clear hgrow hat
  have hcl := hown.cells (g := g) rfl
  have hk0 : w1.cell? ⟨g, 0, none⟩ = some (.string ⟨#[79, 117, 116]⟩) := hcl 0 _ rfl
  have hcap := ownsRow_cap_le hown
  clear hcl
  go_wp2_with fail
  refine (join1 g _ ⟨#[79, 117, 116]⟩ _ hk0 (by assumption) (by omega) (by decide)).mono ?_
  rintro e w' ⟨rfl, hb⟩
  go_wp2_with fail
  go_ret
  exact ⟨rfl, Below.trans hB (Below.mono hb (by have := hB.size; omega))⟩

set_option maxHeartbeats 1000000 in
theorem state_20 (hn m : Int) (hr : (sideB 2 hn && sideB 0 m) = true) (w : World) :
    Calls Try.prog 13 #[Half.val ⟨2, hn, 0, m⟩] w fun e w' => e = .returned (.string ⟨#[84, 111]⟩) ∧ Below w.heap.size w w' := by
  have H := Lib.hid hr
  clear hr
  have hix : ∀ w, (Instr.index 63 (.agg #[.string ⟨#[78, 111, 110, 101]⟩, .string ⟨#[78, 111, 110, 101]⟩, .string ⟨#[70, 114, 111, 109]⟩, .string ⟨#[78, 111, 110, 101]⟩, .string ⟨#[78, 111, 110, 101]⟩, .string ⟨#[70, 114, 111, 109]⟩, .string ⟨#[84, 111]⟩, .string ⟨#[84, 111]⟩, .string ⟨#[66, 111, 116, 104]⟩]) (.int .i64 2)).run Try.prog w = .ok (.agg #[.string ⟨#[84, 111]⟩, .string ⟨#[84, 111]⟩, .string ⟨#[66, 111, 116, 104]⟩]) w := fun _ => by kernel_rfl
  have hiy : ∀ w, (Instr.index 62 (.agg #[.string ⟨#[84, 111]⟩, .string ⟨#[84, 111]⟩, .string ⟨#[66, 111, 116, 104]⟩]) (.int .i64 0)).run Try.prog w = .ok (.string ⟨#[84, 111]⟩) w := fun _ => by kernel_rfl
  go_enter Try.func13, Try.ntmps13
  go_wp2_with fail
  refine (right_any _ _ _ _ _).mono ?_
  rintro e w' ⟨rfl, rfl⟩
  rw [H.out]
  go_wp2_with fail
  go_region
  go_wp2_with fail
  go_ret
  exact ⟨rfl, by repeat (first | exact Below.refl _ _ | assumption | refine Below.drew ?_ | refine Below.alloc ?_ (by first | omega | (simp; omega) | simp) _)⟩

set_option maxHeartbeats 1000000 in
theorem state_21 (hn m : Int) (hr : (sideB 2 hn && sideB 1 m) = true) (w : World) :
    Calls Try.prog 13 #[Half.val ⟨2, hn, 1, m⟩] w fun e w' => e = .returned (.string ⟨#[84, 111, 32, 43, 32, 80, 101, 110, 100, 105, 110, 103, 32, 73, 110]⟩) ∧ Below w.heap.size w w' := by
  have H := Lib.hid hr
  clear hr
  have hix : ∀ w, (Instr.index 63 (.agg #[.string ⟨#[78, 111, 110, 101]⟩, .string ⟨#[78, 111, 110, 101]⟩, .string ⟨#[70, 114, 111, 109]⟩, .string ⟨#[78, 111, 110, 101]⟩, .string ⟨#[78, 111, 110, 101]⟩, .string ⟨#[70, 114, 111, 109]⟩, .string ⟨#[84, 111]⟩, .string ⟨#[84, 111]⟩, .string ⟨#[66, 111, 116, 104]⟩]) (.int .i64 2)).run Try.prog w = .ok (.agg #[.string ⟨#[84, 111]⟩, .string ⟨#[84, 111]⟩, .string ⟨#[66, 111, 116, 104]⟩]) w := fun _ => by kernel_rfl
  have hiy : ∀ w, (Instr.index 62 (.agg #[.string ⟨#[84, 111]⟩, .string ⟨#[84, 111]⟩, .string ⟨#[66, 111, 116, 104]⟩]) (.int .i64 1)).run Try.prog w = .ok (.string ⟨#[84, 111]⟩) w := fun _ => by kernel_rfl
  go_enter Try.func13, Try.ntmps13
  go_wp2_with fail
  refine (right_any _ _ _ _ _).mono ?_
  rintro e w' ⟨rfl, rfl⟩
  rw [H.out]
  go_wp2_with fail
  go_region
  clear hix hiy
  obtain ⟨i0, hi, hz0, hz1, hz2⟩ := info_parts Try.info9
  go_wp2_with (at_builtin; refine wpList_append_lies _ rfl _ _ 53 rfl w.heap.size 9 i0 (.string ⟨#[]⟩) 1 16 Try.underlying53 hi hz0 hz1 hz2 rfl (by decide) _ 0 [] rfl (World.ownsRow_nil _ _ _ _) ⟨w.heap.size + 2, 0, none⟩ 1 1 [.string ⟨#[73, 110]⟩] rfl rfl ?c1 ?c2 (by decide) (by decide) (by decide) ?c5 _ rfl ?_)
  case c1 => intro j u hu; match j, hu with | 0, hu => simpa [go_sem, Addr.add] using hu
  case c2 => intro u hu; simp at hu; subst hu; rfl
  case c5 => simp; omega
  intro g cap w1 hown hgrow hat hlt
  have hB : Below w.heap.size w w1 := Below.grown (by repeat (first | exact Below.refl _ _ | assumption | refine Below.drew ?_ | refine Below.alloc ?_ (by first | omega | (simp; omega) | simp) _)) hgrow (by simp; omega) (fun k hk => by simp [Value.ownBlock] at hk)
  have hgb := (hown.lt g rfl).1
  have hc0 : w1.cell? ⟨w.heap.size, 2, none⟩ = some (.int .i64 1) := (World.cell?_of_block (w := _) (hgrow.block w.heap.size (by simp; omega) (by simp [Value.ownBlock]))).trans (by simp [go_sem])
  have hs1 : w.heap.size < w1.heap.size := by omega
  have HH := Lib.hid (And.intro hgrow hat)
  clear hgrow hat
  have hcl := hown.cells (g := g) rfl
  have hk0 : w1.cell? ⟨g, 0, none⟩ = some (.string ⟨#[73, 110]⟩) := hcl 0 _ rfl
  have hcap := ownsRow_cap_le hown
  clear hcl
  go_wp2_with fail
  refine (join1 g _ ⟨#[73, 110]⟩ _ hk0 (by assumption) (by omega) (by decide)).mono ?_
  rintro e w' ⟨rfl, hb⟩
  go_wp2_with fail
  go_ret
  exact ⟨rfl, Below.trans hB (Below.mono hb (by have := hB.size; omega))⟩

set_option maxHeartbeats 1000000 in
theorem state_22 (hn m : Int) (hr : (sideB 2 hn && sideB 2 m) = true) (w : World) :
    Calls Try.prog 13 #[Half.val ⟨2, hn, 2, m⟩] w fun e w' => e = .returned (.string ⟨#[66, 111, 116, 104]⟩) ∧ Below w.heap.size w w' := by
  have H := Lib.hid hr
  clear hr
  have hix : ∀ w, (Instr.index 63 (.agg #[.string ⟨#[78, 111, 110, 101]⟩, .string ⟨#[78, 111, 110, 101]⟩, .string ⟨#[70, 114, 111, 109]⟩, .string ⟨#[78, 111, 110, 101]⟩, .string ⟨#[78, 111, 110, 101]⟩, .string ⟨#[70, 114, 111, 109]⟩, .string ⟨#[84, 111]⟩, .string ⟨#[84, 111]⟩, .string ⟨#[66, 111, 116, 104]⟩]) (.int .i64 2)).run Try.prog w = .ok (.agg #[.string ⟨#[84, 111]⟩, .string ⟨#[84, 111]⟩, .string ⟨#[66, 111, 116, 104]⟩]) w := fun _ => by kernel_rfl
  have hiy : ∀ w, (Instr.index 62 (.agg #[.string ⟨#[84, 111]⟩, .string ⟨#[84, 111]⟩, .string ⟨#[66, 111, 116, 104]⟩]) (.int .i64 2)).run Try.prog w = .ok (.string ⟨#[66, 111, 116, 104]⟩) w := fun _ => by kernel_rfl
  go_enter Try.func13, Try.ntmps13
  go_wp2_with fail
  refine (right_any _ _ _ _ _).mono ?_
  rintro e w' ⟨rfl, rfl⟩
  rw [H.out]
  go_wp2_with fail
  go_region
  go_wp2_with fail
  go_ret
  exact ⟨rfl, by repeat (first | exact Below.refl _ _ | assumption | refine Below.drew ?_ | refine Below.alloc ?_ (by first | omega | (simp; omega) | simp) _)⟩

theorem state_any (h : Half) (w : World) :
    Calls Try.prog 13 #[h.val] w fun e w' => e = .returned (strV (stateS h)) ∧ Below w.heap.size w w' := by
  obtain ⟨o, hn, i, m⟩ := h
  unfold stateS rightB strV
  by_cases hr : (sideB o hn && sideB i m) = false
  · rw [if_pos hr]; exact state_wrong o hn i m hr w
  · rw [if_neg hr]
    replace hr : (sideB o hn && sideB i m) = true := by simpa using hr
    have h2 := hr
    simp only [Bool.and_eq_true] at h2
    rcases side_range h2.1 with rfl | rfl | rfl <;> rcases side_range h2.2 with rfl | rfl | rfl
    · exact state_00 hn m hr w
    · exact state_01 hn m hr w
    · exact state_02 hn m hr w
    · exact state_10 hn m hr w
    · exact state_11 hn m hr w
    · exact state_12 hn m hr w
    · exact state_20 hn m hr w
    · exact state_21 hn m hr w
    · exact state_22 hn m hr w

end Go.Proofs.Ytgaimcdkbknljaa
