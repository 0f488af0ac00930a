/- SubsTables' walk, for whatever state and round: what the tables say of each is a hypothesis. -/
import Derived.Test.YtgaimcdkbknljaaTabM
import Derived.Test.YtgaimcdkbknljaaHeld
namespace Go.Proofs.Ytgaimcdkbknljaa
open Go.RowKit
set_option linter.unusedSimpArgs false
set_option linter.unusedVariables false

/-- What a round of the four meets. -/
structure Rnd (h : Half) (n m s : Int) (k : Nat) (mk K : Int) (ev ev2 : ByteArray) (a : Half) (mail nn : Int) (t1 : Value) (want : Int) (c : Half) (num tell : Int) (t2 : Value) (want2 : Int) : Prop where
  fK : (#[.int .i64 11, .int .i64 13, .int .i64 12, .int .i64 14] : Array Value)[k]? = some (.int .i64 K)
  fev : (#[.string ⟨#[111, 117, 116, 32, 115, 117, 98, 115, 99, 114, 105, 98, 101]⟩, .string ⟨#[111, 117, 116, 32, 117, 110, 115, 117, 98, 115, 99, 114, 105, 98, 101]⟩, .string ⟨#[111, 117, 116, 32, 115, 117, 98, 115, 99, 114, 105, 98, 101, 100]⟩, .string ⟨#[111, 117, 116, 32, 117, 110, 115, 117, 98, 115, 99, 114, 105, 98, 101, 100]⟩] : Array Value)[k]? = some (.string ev)
  mkv : mk = k + 1
  fmk : (#[.int .i64 1, .int .i64 2, .int .i64 3, .int .i64 4] : Array Value)[k]? = some (.int .i64 mk)
  fev2 : (#[.string ⟨#[105, 110, 32, 115, 117, 98, 115, 99, 114, 105, 98, 101]⟩, .string ⟨#[105, 110, 32, 117, 110, 115, 117, 98, 115, 99, 114, 105, 98, 101]⟩, .string ⟨#[105, 110, 32, 115, 117, 98, 115, 99, 114, 105, 98, 101, 100]⟩, .string ⟨#[105, 110, 32, 117, 110, 115, 117, 98, 115, 99, 114, 105, 98, 101, 100]⟩] : Array Value)[k]? = some (.string ev2)
  act : ∀ w, Calls Try.prog 7 #[h.val, .int .i64 K, .int .u64 (n + 1)] w fun e w' => e = .returned (.tuple #[a.val, .int .i64 mail, .int .u64 nn, .int .i64 0]) ∧ Below w.heap.size w w'
  tab : ∀ w, Calls Try.prog 18 #[.string ev] w fun e w' => e = .returned t1 ∧ Below w.heap.size w w'
  idx : ∀ w, (Instr.index 54 t1 (.int .i64 s)).run Try.prog w = .ok (.int .i64 want) w
  one : (want < 0 ∧ mail = 0 ∧ a = h) ∨ (0 ≤ want ∧ want < 9 ∧ mail = mk ∧ ∃ nm, (#[.string ⟨#[78, 111, 110, 101]⟩, .string ⟨#[78, 111, 110, 101, 32, 43, 32, 80, 101, 110, 100, 105, 110, 103, 32, 79, 117, 116]⟩, .string ⟨#[78, 111, 110, 101, 32, 43, 32, 80, 101, 110, 100, 105, 110, 103, 32, 73, 110]⟩, .string ⟨#[78, 111, 110, 101, 32, 43, 32, 80, 101, 110, 100, 105, 110, 103, 32, 79, 117, 116, 43, 73, 110]⟩, .string ⟨#[84, 111]⟩, .string ⟨#[84, 111, 32, 43, 32, 80, 101, 110, 100, 105, 110, 103, 32, 73, 110]⟩, .string ⟨#[70, 114, 111, 109]⟩, .string ⟨#[70, 114, 111, 109, 32, 43, 32, 80, 101, 110, 100, 105, 110, 103, 32, 79, 117, 116]⟩, .string ⟨#[66, 111, 116, 104]⟩] : Array Value)[want.toNat]? = some (.string nm) ∧ ∀ w, Calls Try.prog 13 #[a.val] w fun e w' => e = .returned (.string nm) ∧ Below w.heap.size w w')
  fnum : num = if k = 0 then m + 1 else if k = 1 then m else n
  hear : ∀ w, Calls Try.prog 8 #[h.val, .int .i64 mk, .int .u64 num] w fun e w' => e = .returned (.tuple #[c.val, .int .i64 tell, .int .i64 0]) ∧ Below w.heap.size w w'
  tab2 : ∀ w, Calls Try.prog 18 #[.string ev2] w fun e w' => e = .returned t2 ∧ Below w.heap.size w w'
  idx2 : ∀ w, (Instr.index 54 t2 (.int .i64 s)).run Try.prog w = .ok (.int .i64 want2) w
  two : (want2 < 0 ∧ (k = 0 ∨ (tell = 0 ∧ c = h))) ∨ (0 ≤ want2 ∧ want2 < 9 ∧ tell ≠ 0 ∧ ∃ nm, (#[.string ⟨#[78, 111, 110, 101]⟩, .string ⟨#[78, 111, 110, 101, 32, 43, 32, 80, 101, 110, 100, 105, 110, 103, 32, 79, 117, 116]⟩, .string ⟨#[78, 111, 110, 101, 32, 43, 32, 80, 101, 110, 100, 105, 110, 103, 32, 73, 110]⟩, .string ⟨#[78, 111, 110, 101, 32, 43, 32, 80, 101, 110, 100, 105, 110, 103, 32, 79, 117, 116, 43, 73, 110]⟩, .string ⟨#[84, 111]⟩, .string ⟨#[84, 111, 32, 43, 32, 80, 101, 110, 100, 105, 110, 103, 32, 73, 110]⟩, .string ⟨#[70, 114, 111, 109]⟩, .string ⟨#[70, 114, 111, 109, 32, 43, 32, 80, 101, 110, 100, 105, 110, 103, 32, 79, 117, 116]⟩, .string ⟨#[66, 111, 116, 104]⟩] : Array Value)[want2.toNat]? = some (.string nm) ∧ ∀ w, Calls Try.prog 13 #[c.val] w fun e w' => e = .returned (.string nm) ∧ Below w.heap.size w w')

theorem same_refl (h : Half) (w : World) :
    Calls Try.prog 12 #[h.val, h.val] w fun e w' => e = .returned (.bool true) ∧ Below w.heap.size w w' := same_refl4 h.o h.n h.i h.m w

/-- The numbers that the law goes on with. -/
def Norm (n0 m0 n m : Int) : Prop :=
  ((n0 == 0) = false ∧ (m0 == 0) = false ∧ (n0 == 18446744073709551615) = false ∧ (m0 == 18446744073709551615) = false ∧ n = n0 ∧ m = m0) ∨
  (((n0 == 0) = true ∨ ((n0 == 0) = false ∧ (m0 == 0) = true) ∨ ((n0 == 0) = false ∧ (m0 == 0) = false ∧ (n0 == 18446744073709551615) = true) ∨
    ((n0 == 0) = false ∧ (m0 == 0) = false ∧ (n0 == 18446744073709551615) = false ∧ (m0 == 18446744073709551615) = true)) ∧ n = 3 ∧ m = 4)

set_option maxRecDepth 100000 in
set_option maxHeartbeats 16000000 in
theorem tables_any (st n0 m0 n m s : Int) (h : Half) (nm : ByteArray) (hs : (wrap64 (st.tmod 9 + 9)).tmod 9 = s) (hs0 : 0 ≤ s) (hs9 : s < 9) (hnorm : Norm n0 m0 n m)
    (h4 : IntKind.u64.wrap (n + 1) = n + 1) (h5 : IntKind.u64.wrap (m + 1) = m + 1)
    (hhalf : ∀ w, Calls Try.prog 17 #[.int .i64 s, .int .u64 n, .int .u64 m] w fun e w' => e = .returned h.val ∧ Below w.heap.size w w')
    (hnm : (#[.string ⟨#[78, 111, 110, 101]⟩, .string ⟨#[78, 111, 110, 101, 32, 43, 32, 80, 101, 110, 100, 105, 110, 103, 32, 79, 117, 116]⟩, .string ⟨#[78, 111, 110, 101, 32, 43, 32, 80, 101, 110, 100, 105, 110, 103, 32, 73, 110]⟩, .string ⟨#[78, 111, 110, 101, 32, 43, 32, 80, 101, 110, 100, 105, 110, 103, 32, 79, 117, 116, 43, 73, 110]⟩, .string ⟨#[84, 111]⟩, .string ⟨#[84, 111, 32, 43, 32, 80, 101, 110, 100, 105, 110, 103, 32, 73, 110]⟩, .string ⟨#[70, 114, 111, 109]⟩, .string ⟨#[70, 114, 111, 109, 32, 43, 32, 80, 101, 110, 100, 105, 110, 103, 32, 79, 117, 116]⟩, .string ⟨#[66, 111, 116, 104]⟩] : Array Value)[s.toNat]? = some (.string nm))
    (hstate : ∀ w, Calls Try.prog 13 #[h.val] w fun e w' => e = .returned (.string nm) ∧ Below w.heap.size w w')
    (hrnd : ∀ k : Nat, k < 4 → ∃ mk K ev ev2 a mail nn t1 want c num tell t2 want2, Rnd h n m s k mk K ev ev2 a mail nn t1 want c num tell t2 want2) (w : World) :
    Calls Try.prog 5 #[.int .i64 st, .int .u64 n0, .int .u64 m0] w fun e w' => e = .returned (.bool true) ∧ Below w.heap.size w w' := by
  have H4 := Lib.hid h4
  have H5 := Lib.hid h5
  have HH := Lib.hid hhalf
  have HN := Lib.hid hnm
  have HST := Lib.hid hstate
  have HRND := Lib.hid hrnd
  have HNORM := Lib.hid hnorm
  clear h4 h5 hhalf hnm hstate hrnd hnorm
  go_enter Try.func5, Try.ntmps5
  go_upto_region 2 with fail
  go_cut [39] (fun s39 wx => (∃ b : Bool, s39 = .bool b ∧ ((b = true ∧ n = 3 ∧ m = 4) ∨ (b = false ∧ n = n0 ∧ m = m0))) ∧ w = wx)
  case first =>
    rcases HNORM.out with ⟨a0, b0, c0, d0, e, f⟩ | ⟨a0 | ⟨a0, b0⟩ | ⟨a0, b0, c0⟩ | ⟨a0, b0, c0, d0⟩, e, f⟩
    · have HE := Lib.hid (And.intro e f)
      clear e f
      go_wp2_with fail
      go_meet
      exact ⟨⟨_, rfl, .inr ⟨rfl, HE.out⟩⟩, rfl⟩
    · have HE := Lib.hid (And.intro e f)
      clear e f
      go_wp2_with fail
      go_meet
      exact ⟨⟨_, rfl, .inl ⟨rfl, HE.out⟩⟩, rfl⟩
    · have HE := Lib.hid (And.intro e f)
      clear e f
      go_wp2_with fail
      go_meet
      exact ⟨⟨_, rfl, .inl ⟨rfl, HE.out⟩⟩, rfl⟩
    · have HE := Lib.hid (And.intro e f)
      clear e f
      go_wp2_with fail
      go_meet
      exact ⟨⟨_, rfl, .inl ⟨rfl, HE.out⟩⟩, rfl⟩
    · have HE := Lib.hid (And.intro e f)
      clear e f
      go_wp2_with fail
      go_meet
      exact ⟨⟨_, rfl, .inl ⟨rfl, HE.out⟩⟩, rfl⟩
  case rest =>
  obtain ⟨⟨b, rfl, hb⟩, rfl⟩ := hcut
  have HB := Lib.hid hb
  clear hb HNORM
  go_upto_if 39 with fail
  go_cut [1, 2] (fun s1 s2 wx => s1 = .int .u64 n ∧ s2 = .int .u64 m ∧ w = wx)
  case first =>
    cases b
    · go_wp2_with fail
      go_meet
      rcases HB.out with ⟨h, _⟩ | ⟨_, e, f⟩
      · cases h
      · exact ⟨by rw [e], by rw [f], rfl⟩
    · go_wp2_with fail
      go_meet
      rcases HB.out with ⟨_, e, f⟩ | ⟨h, _⟩
      · exact ⟨by rw [e], by rw [f], rfl⟩
      · cases h
  case rest =>
  obtain ⟨rfl, rfl, rfl⟩ := hcut
  clear HB
  go_wp2_with fail
  refine (HH.out _).mono ?_
  rintro e w1 ⟨rfl, hb1⟩
  go_wp2_with fail
  have hbw : Below w.heap.size w w1 := hb1
  clear hb1 hs HH
  generalize hW : ((w1.alloc (.cells #[.int .i64 h.o, .int .u64 h.n, .int .i64 h.i, .int .u64 h.m] 25)).alloc (.cells #[.string ⟨#[78, 111, 110, 101]⟩, .string ⟨#[78, 111, 110, 101, 32, 43, 32, 80, 101, 110, 100, 105, 110, 103, 32, 79, 117, 116]⟩, .string ⟨#[78, 111, 110, 101, 32, 43, 32, 80, 101, 110, 100, 105, 110, 103, 32, 73, 110]⟩, .string ⟨#[78, 111, 110, 101, 32, 43, 32, 80, 101, 110, 100, 105, 110, 103, 32, 79, 117, 116, 43, 73, 110]⟩, .string ⟨#[84, 111]⟩, .string ⟨#[84, 111, 32, 43, 32, 80, 101, 110, 100, 105, 110, 103, 32, 73, 110]⟩, .string ⟨#[70, 114, 111, 109]⟩, .string ⟨#[70, 114, 111, 109, 32, 43, 32, 80, 101, 110, 100, 105, 110, 103, 32, 79, 117, 116]⟩, .string ⟨#[66, 111, 116, 104]⟩] 52)) = W
  have B8 : W.heap[w1.heap.size]? = some (.cells #[.int .i64 h.o, .int .u64 h.n, .int .i64 h.i, .int .u64 h.m] 25) := by subst hW; exact blk_alloc (blk_new _ _) _
  have B9 : W.heap[w1.heap.size + 1]? = some (.cells #[.string ⟨#[78, 111, 110, 101]⟩, .string ⟨#[78, 111, 110, 101, 32, 43, 32, 80, 101, 110, 100, 105, 110, 103, 32, 79, 117, 116]⟩, .string ⟨#[78, 111, 110, 101, 32, 43, 32, 80, 101, 110, 100, 105, 110, 103, 32, 73, 110]⟩, .string ⟨#[78, 111, 110, 101, 32, 43, 32, 80, 101, 110, 100, 105, 110, 103, 32, 79, 117, 116, 43, 73, 110]⟩, .string ⟨#[84, 111]⟩, .string ⟨#[84, 111, 32, 43, 32, 80, 101, 110, 100, 105, 110, 103, 32, 73, 110]⟩, .string ⟨#[70, 114, 111, 109]⟩, .string ⟨#[70, 114, 111, 109, 32, 43, 32, 80, 101, 110, 100, 105, 110, 103, 32, 79, 117, 116]⟩, .string ⟨#[66, 111, 116, 104]⟩] 52) := by subst hW; exact blk_new' _ (by simp)
  have hbW : Below w.heap.size w W := by subst hW; exact Below.alloc (Below.alloc hbw hbw.size _) (by have := hbw.size; simp; omega) _
  have hle := hbw.size
  clear hW hbw
  have z8 := blk_lt B8
  have z9 := blk_lt B9
  have c0 : W.cell? ⟨w1.heap.size, 0, none⟩ = some (.int .i64 h.o) := blk_cell B8 0
  have c1 : W.cell? ⟨w1.heap.size, 1, none⟩ = some (.int .u64 h.n) := blk_cell B8 1
  have c2 : W.cell? ⟨w1.heap.size, 2, none⟩ = some (.int .i64 h.i) := blk_cell B8 2
  have c3 : W.cell? ⟨w1.heap.size, 3, none⟩ = some (.int .u64 h.m) := blk_cell B8 3
  have c4 : W.cell? ⟨w1.heap.size + 1, s.toNat, none⟩ = some (.string nm) := (blk_cell B9 _).trans HN.out
  have HW := Lib.hid (And.intro hbW (And.intro B8 B9))
  clear hbW B8 B9
  go_region_held3 (fun w' => w'.cell? ⟨w1.heap.size, 0, none⟩ = some (.int .i64 h.o) ∧ w'.cell? ⟨w1.heap.size, 1, none⟩ = some (.int .u64 h.n) ∧ w'.cell? ⟨w1.heap.size, 2, none⟩ = some (.int .i64 h.i) ∧ w'.cell? ⟨w1.heap.size, 3, none⟩ = some (.int .u64 h.m) ∧ w'.cell? ⟨w1.heap.size + 1, s.toNat, none⟩ = some (.string nm))
    (first
      | exact ⟨c0, c1, c2, c3, c4⟩
      | (refine ⟨?_, ?_, ?_, ?_, ?_⟩ <;> (refine (hbc.cell (by first | (simp; done) | (simp; omega))).trans ?_; assumption)))
    (first
      | (go_at_call 13; refine (HST.out _).mono ?_; rintro e w2 ⟨rfl, hbc⟩))
  rename_i hheld
  replace hbc := below_undrew hbc
  have B8 := blk_below HW.out.2.1 hbc z8
  have B9 := blk_below HW.out.2.2 hbc z9
  have hbW := HW.out.1.trans (hbc.mono (by have := HW.out.1.size; omega))
  clear hbc HW c0 c1 c2 c3 c4 z8 z9 hheld HST HN
  go_wp2_with fail
  go_loopg [14] 4 (fun g s14 wx => ∃ k : Nat, k ≤ 4 ∧ g = 4 - k ∧ s14 = .int .i64 k ∧ TMem w.heap.size w1.heap.size w2.heap.size w wx h)
  case atStart =>
    exact ⟨0, by omega, rfl, rfl, (((hbW.alloc (by have := hbW.size; omega) _).alloc (by have := hbW.size; simp; omega) _).alloc (by have := hbW.size; simp; omega) _).alloc (by have := hbW.size; simp; omega) _,
      blk_alloc (blk_alloc (blk_alloc (blk_alloc B8 _) _) _) _, blk_alloc (blk_alloc (blk_alloc (blk_alloc B9 _) _) _) _, blk_alloc (blk_alloc (blk_alloc (blk_new' _ rfl) _) _) _, blk_alloc (blk_alloc (blk_new' _ (by simp)) _) _, blk_alloc (blk_new' _ (by simp)) _, blk_new' _ (by simp), hle⟩
  case round =>
    obtain ⟨k, hk, hgk, rfl, tm⟩ := hrel
    clear hbW B8 B9
    have HT := Lib.hid tm
    clear tm
    by_cases hk4 : k < 4
    · as_aux_lemma =>
      obtain ⟨mk, K, ev, ev2, a, mail, nn, T1, want, c, num, tell, T2, want2, hR⟩ := HRND.out k hk4
      have R := Lib.hid hR
      clear hR HRND
      have hki : ((k : Int) < 4) := by omega
      have hkd : decide ((k : Int) < 4) = true := by simpa using hki
      have t0 : wr.cell? ⟨w1.heap.size, 0, none⟩ = some (.int .i64 h.o) := blk_cell HT.out.hs 0
      have t1 : wr.cell? ⟨w1.heap.size, 1, none⟩ = some (.int .u64 h.n) := blk_cell HT.out.hs 1
      have t2 : wr.cell? ⟨w1.heap.size, 2, none⟩ = some (.int .i64 h.i) := blk_cell HT.out.hs 2
      have t3 : wr.cell? ⟨w1.heap.size, 3, none⟩ = some (.int .u64 h.m) := blk_cell HT.out.hs 3
      have t4 : wr.cell? ⟨w2.heap.size, k, none⟩ = some (.int .i64 K) := (blk_cell HT.out.ka k).trans R.out.fK
      have zA := blk_lt HT.out.hs
      have zC := blk_lt HT.out.ka
      have hw := H4.out
      go_wp2_with fail
      go_cut [15, 16, 17, 18] (fun s15 s16 s17 s18 wx => ∃ g, s15 = .pointer (some ⟨g, 0, none⟩) ∧ s16 = .int .i64 mail ∧ s17 = .int .u64 nn ∧ s18 = .int .i64 0 ∧ TMem w.heap.size w1.heap.size w2.heap.size w wx h ∧ wx.heap[g]? = some (.cells #[.int .i64 a.o, .int .u64 a.n, .int .i64 a.i, .int .u64 a.m] 25) ∧ w1.heap.size + 1 < g ∧ w2.heap.size + 1 + 1 + 1 < g)
      case first =>
        go_region_held3 (fun w' => w'.cell? ⟨w1.heap.size, 0, none⟩ = some (.int .i64 h.o) ∧ w'.cell? ⟨w1.heap.size, 1, none⟩ = some (.int .u64 h.n) ∧ w'.cell? ⟨w1.heap.size, 2, none⟩ = some (.int .i64 h.i) ∧ w'.cell? ⟨w1.heap.size, 3, none⟩ = some (.int .u64 h.m) ∧ w'.cell? ⟨w2.heap.size, k, none⟩ = some (.int .i64 K))
          (first
            | exact ⟨t0, t1, t2, t3, t4⟩
            | (refine ⟨?_, ?_, ?_, ?_, ?_⟩ <;> (refine (Below.cell (B := wr.heap.size) (w := wr) (by repeat (first | exact hbW | exact Below.refl _ _ | refine Below.drew ?_ | refine Below.setCell ?_ (by first | exact hbc.size | (simp; done) | (simp; exact hbc.size)) _ | refine Below.alloc ?_ (by first | exact hbc.size | (simp; done) | (simp; exact hbc.size)) _)) (by first | (simp; done) | (simp; omega))).trans ?_; assumption)))
          (first
            | (go_at_call 7; refine (R.out.act _).mono ?_; rintro e w' ⟨rfl, hbc⟩; replace hbc := below_undrew hbc; first | have hbW : Below wr.heap.size wr w' := hbc | (have hbW : Below wr.heap.size wr w' := (Below.alloc (Below.refl _ _) (Nat.le_refl _) _).trans (hbc.mono (by simp)); have hx0 : w'.cell? ⟨wr.heap.size, 0, none⟩ = some (.int .i64 0) := (blk_cell (blk_below (blk_new wr _) hbc (by simp)) 0).trans rfl; have hf0 : w'.frozen? ⟨wr.heap.size, 0, none⟩ = false := blk_frozen (blk_below (blk_new wr _) hbc (by simp)) 0; have hx1 : w'.cell? ⟨wr.heap.size, 1, none⟩ = some (.int .u64 0) := (blk_cell (blk_below (blk_new wr _) hbc (by simp)) 1).trans rfl; have hf1 : w'.frozen? ⟨wr.heap.size, 1, none⟩ = false := blk_frozen (blk_below (blk_new wr _) hbc (by simp)) 1; have hx2 : w'.cell? ⟨wr.heap.size, 2, none⟩ = some (.int .i64 0) := (blk_cell (blk_below (blk_new wr _) hbc (by simp)) 2).trans rfl; have hf2 : w'.frozen? ⟨wr.heap.size, 2, none⟩ = false := blk_frozen (blk_below (blk_new wr _) hbc (by simp)) 2; have hx3 : w'.cell? ⟨wr.heap.size, 3, none⟩ = some (.int .u64 0) := (blk_cell (blk_below (blk_new wr _) hbc (by simp)) 3).trans rfl; have hf3 : w'.frozen? ⟨wr.heap.size, 3, none⟩ = false := blk_frozen (blk_below (blk_new wr _) hbc (by simp)) 3; have zX : wr.heap.size < w'.heap.size := (by have := hbc.size; simp at this; omega))))
        all_goals
          go_wp2_with fail
          go_meet
          have hbs := hbW.size
          have zi := blk_lt HT.out.ki
          have zn := blk_lt HT.out.ns
          first
            | refine ⟨w'.heap.size, rfl, rfl, rfl, rfl, (HT.out.call hbW).alloc _, blk_new _ _, ?_, ?_⟩
            | refine ⟨wr.heap.size, rfl, rfl, rfl, rfl, HT.out.call (Below.setCell (Below.setCell (Below.setCell (Below.setCell hbW (Nat.le_refl _) _) (Nat.le_refl _) _) (Nat.le_refl _) _) (Nat.le_refl _) _), blk_set_same (blk_set_same (blk_set_same (blk_set_same (blk_below (blk_new wr _) hbc (Nat.lt_of_lt_of_eq (Nat.lt_succ_self _) (size_alloc wr _).symm)) 0 _) 1 _) 2 _) 3 _, ?_, ?_⟩
          all_goals omega
      case rest =>
        obtain ⟨g, rfl, rfl, rfl, rfl, tc, BG, zg1, zg2⟩ := hcut
        clear t0 t1 t2 t3 t4 zA zC hw HT
        have H2 := Lib.hid tc
        have H3 := Lib.hid BG
        clear tc BG
        have d0 : wc.cell? ⟨w1.heap.size, 0, none⟩ = some (.int .i64 h.o) := blk_cell H2.out.hs 0
        have d1 : wc.cell? ⟨w1.heap.size, 1, none⟩ = some (.int .u64 h.n) := blk_cell H2.out.hs 1
        have d2 : wc.cell? ⟨w1.heap.size, 2, none⟩ = some (.int .i64 h.i) := blk_cell H2.out.hs 2
        have d3 : wc.cell? ⟨w1.heap.size, 3, none⟩ = some (.int .u64 h.m) := blk_cell H2.out.hs 3
        have e0 : wc.cell? ⟨g, 0, none⟩ = some (.int .i64 a.o) := blk_cell H3.out 0
        have e1 : wc.cell? ⟨g, 1, none⟩ = some (.int .u64 a.n) := blk_cell H3.out 1
        have e2 : wc.cell? ⟨g, 2, none⟩ = some (.int .i64 a.i) := blk_cell H3.out 2
        have e3 : wc.cell? ⟨g, 3, none⟩ = some (.int .u64 a.m) := blk_cell H3.out 3
        have x1 : wc.cell? ⟨w2.heap.size + 1, k, none⟩ = some (.string ev) := (blk_cell H2.out.ko k).trans R.out.fev
        have x2 : wc.cell? ⟨w2.heap.size + 1 + 1, k, none⟩ = some (.int .i64 mk) := (blk_cell H2.out.km k).trans R.out.fmk
        have x3 : wc.cell? ⟨w2.heap.size + 1 + 1 + 1, k, none⟩ = some (.string ev2) := (blk_cell H2.out.ki k).trans R.out.fev2
        have zA := blk_lt H2.out.hs
        have zC := blk_lt H2.out.ki
        have zN := blk_lt H2.out.ns
        have zG := blk_lt H3.out
        have hidx := R.out.idx
        go_wp2_with fail
        refine (R.out.tab _).mono ?_
        rintro e w3 ⟨rfl, hbc⟩
        have tc := H2.out.call hbc
        have BG := blk_below H3.out hbc zG
        clear d0 d1 d2 d3 e0 e1 e2 e3 x1 x2 x3 zA zC zN zG H2 H3 hbc
        have H2 := Lib.hid tc
        have H3 := Lib.hid BG
        clear tc BG
        have d0 : w3.cell? ⟨w1.heap.size, 0, none⟩ = some (.int .i64 h.o) := blk_cell H2.out.hs 0
        have d1 : w3.cell? ⟨w1.heap.size, 1, none⟩ = some (.int .u64 h.n) := blk_cell H2.out.hs 1
        have d2 : w3.cell? ⟨w1.heap.size, 2, none⟩ = some (.int .i64 h.i) := blk_cell H2.out.hs 2
        have d3 : w3.cell? ⟨w1.heap.size, 3, none⟩ = some (.int .u64 h.m) := blk_cell H2.out.hs 3
        have e0 : w3.cell? ⟨g, 0, none⟩ = some (.int .i64 a.o) := blk_cell H3.out 0
        have e1 : w3.cell? ⟨g, 1, none⟩ = some (.int .u64 a.n) := blk_cell H3.out 1
        have e2 : w3.cell? ⟨g, 2, none⟩ = some (.int .i64 a.i) := blk_cell H3.out 2
        have e3 : w3.cell? ⟨g, 3, none⟩ = some (.int .u64 a.m) := blk_cell H3.out 3
        have x1 : w3.cell? ⟨w2.heap.size + 1, k, none⟩ = some (.string ev) := (blk_cell H2.out.ko k).trans R.out.fev
        have x2 : w3.cell? ⟨w2.heap.size + 1 + 1, k, none⟩ = some (.int .i64 mk) := (blk_cell H2.out.km k).trans R.out.fmk
        have x3 : w3.cell? ⟨w2.heap.size + 1 + 1 + 1, k, none⟩ = some (.string ev2) := (blk_cell H2.out.ki k).trans R.out.fev2
        have zA := blk_lt H2.out.hs
        have zC := blk_lt H2.out.ki
        have zN := blk_lt H2.out.ns
        have zG := blk_lt H3.out
        go_upto_region 17 with fail
        go_cut [117] (fun s117 wx => s117 = .bool false ∧ Below w3.heap.size w3 wx)
        case first =>
          rcases R.out.one with ⟨hw1, hm1, ha1⟩ | ⟨hw1, hw9, hm1, nn1, hn1, hst1⟩
          · have b1 : decide (want < 0) = true := by simpa using hw1
            have b2 : (mail == 0) = true := by simp [hm1]
            have b3 : decide (0 ≤ want) = false := by simp; omega
            have ha2 := ha1.symm
            subst ha2
            clear hm1 hw1
            go_wp2_with fail
            refine wp_region_held_drew (S := (fun w' => w'.cell? ⟨w1.heap.size, 0, none⟩ = some (.int .i64 h.o) ∧ w'.cell? ⟨w1.heap.size, 1, none⟩ = some (.int .u64 h.n) ∧ w'.cell? ⟨w1.heap.size, 2, none⟩ = some (.int .i64 h.i) ∧ w'.cell? ⟨w1.heap.size, 3, none⟩ = some (.int .u64 h.m) ∧ w'.cell? ⟨g, 0, none⟩ = some (.int .i64 h.o) ∧ w'.cell? ⟨g, 1, none⟩ = some (.int .u64 h.n) ∧ w'.cell? ⟨g, 2, none⟩ = some (.int .i64 h.i) ∧ w'.cell? ⟨g, 3, none⟩ = some (.int .u64 h.m) ∧ w'.cell? ⟨w2.heap.size + 1, k, none⟩ = some (.string ev) ∧ w'.cell? ⟨w2.heap.size + 1 + 1, k, none⟩ = some (.int .i64 mk) ∧ w'.cell? ⟨w2.heap.size + 1 + 1 + 1, k, none⟩ = some (.string ev2))) (by kernel_rfl) ?_ (fun hHeld0 => ?_)
            · exact ⟨d0, d1, d2, d3, e0, e1, e2, e3, x1, x2, x3⟩
            refine held_take (v := ?_) 0 rfl rfl (by kernel_rfl) (by kernel_rfl) (by kernel_rfl) (fun _ _ _ h => h) (by rfl) ?_ (by assumption) ?_
            rotate_left
            · intro w hSw; (try dsimp only at hSw); go_simp; (try with_reducible rfl)
            try simp only [Act.put, List.setIfInBounds_toArray, List.set_cons_zero, List.set_cons_succ]
            refine held_take (v := ?_) 1 rfl rfl (by kernel_rfl) (by kernel_rfl) (by kernel_rfl) (fun _ _ _ h => h) (by rfl) ?_ (by assumption) ?_
            rotate_left
            · intro w hSw; (try dsimp only at hSw); go_simp; (try with_reducible rfl)
            try simp only [Act.put, List.setIfInBounds_toArray, List.set_cons_zero, List.set_cons_succ]
            refine held_take (v := ?_) 2 rfl rfl (by kernel_rfl) (by kernel_rfl) (by kernel_rfl) (fun _ _ _ h => h) (by rfl) ?_ (by assumption) ?_
            rotate_left
            · intro w hSw; (try dsimp only at hSw); go_simp; (try with_reducible rfl)
            try simp only [Act.put, List.setIfInBounds_toArray, List.set_cons_zero, List.set_cons_succ]
            refine held_take (v := ?_) 3 rfl rfl (by kernel_rfl) (by kernel_rfl) (by kernel_rfl) (fun _ _ _ h => h) (by rfl) ?_ (by assumption) ?_
            rotate_left
            · intro w hSw; (try dsimp only at hSw); go_simp; (try with_reducible rfl)
            try simp only [Act.put, List.setIfInBounds_toArray, List.set_cons_zero, List.set_cons_succ]
            refine held_take (v := ?_) 4 rfl rfl (by kernel_rfl) (by kernel_rfl) (by kernel_rfl) (fun _ _ _ h => h) (by rfl) ?_ (by assumption) ?_
            rotate_left
            · intro w hSw; (try dsimp only at hSw); go_simp; (try with_reducible rfl)
            try simp only [Act.put, List.setIfInBounds_toArray, List.set_cons_zero, List.set_cons_succ]
            refine held_take (v := ?_) 5 rfl rfl (by kernel_rfl) (by kernel_rfl) (by kernel_rfl) (fun _ _ _ h => h) (by rfl) ?_ (by assumption) ?_
            rotate_left
            · intro w hSw; (try dsimp only at hSw); go_simp; (try with_reducible rfl)
            try simp only [Act.put, List.setIfInBounds_toArray, List.set_cons_zero, List.set_cons_succ]
            refine held_take (v := ?_) 6 rfl rfl (by kernel_rfl) (by kernel_rfl) (by kernel_rfl) (fun _ _ _ h => h) (by rfl) ?_ (by assumption) ?_
            rotate_left
            · intro w hSw; (try dsimp only at hSw); go_simp; (try with_reducible rfl)
            try simp only [Act.put, List.setIfInBounds_toArray, List.set_cons_zero, List.set_cons_succ]
            refine held_take (v := ?_) 7 rfl rfl (by kernel_rfl) (by kernel_rfl) (by kernel_rfl) (fun _ _ _ h => h) (by rfl) ?_ (by assumption) ?_
            rotate_left
            · intro w hSw; (try dsimp only at hSw); go_simp; (try with_reducible rfl)
            try simp only [Act.put, List.setIfInBounds_toArray, List.set_cons_zero, List.set_cons_succ]
            refine held_take (v := ?_) 8 rfl rfl (by kernel_rfl) (by kernel_rfl) (by kernel_rfl) (fun _ _ _ h => h) (by rfl) ?_ (by assumption) ?_
            rotate_left
            · intro w hSw; (try dsimp only at hSw); go_simp; (try with_reducible rfl)
            try simp only [Act.put, List.setIfInBounds_toArray, List.set_cons_zero, List.set_cons_succ]
            refine held_take (v := ?_) 9 rfl rfl (by kernel_rfl) (by kernel_rfl) (by kernel_rfl) (fun _ _ _ h => h) (by rfl) ?_ (by assumption) ?_
            rotate_left
            · intro w hSw; (try dsimp only at hSw); go_simp; (try with_reducible rfl)
            try simp only [Act.put, List.setIfInBounds_toArray, List.set_cons_zero, List.set_cons_succ]
            refine held_take (v := ?_) 10 rfl rfl (by kernel_rfl) (by kernel_rfl) (by kernel_rfl) (fun _ _ _ h => h) (by rfl) ?_ (by assumption) ?_
            rotate_left
            · intro w hSw; (try dsimp only at hSw); go_simp; (try with_reducible rfl)
            try simp only [Act.put, List.setIfInBounds_toArray, List.set_cons_zero, List.set_cons_succ]
            refine held_take (v := ?_) 11 rfl rfl (by kernel_rfl) (by kernel_rfl) (by kernel_rfl) (fun _ _ _ h => h) (by rfl) ?_ (by assumption) ?_
            rotate_left
            · intro w hSw; (try dsimp only at hSw); go_simp; (try with_reducible rfl)
            try simp only [Act.put, List.setIfInBounds_toArray, List.set_cons_zero, List.set_cons_succ]
            refine held_take (v := ?_) 12 rfl rfl (by kernel_rfl) (by kernel_rfl) (by kernel_rfl) (fun _ _ _ h => h) (by rfl) ?_ (by assumption) ?_
            rotate_left
            · intro w hSw; (try dsimp only at hSw); go_simp; (try with_reducible rfl)
            try simp only [Act.put, List.setIfInBounds_toArray, List.set_cons_zero, List.set_cons_succ]
            refine held_take (v := ?_) 13 rfl rfl (by kernel_rfl) (by kernel_rfl) (by kernel_rfl) (fun _ _ _ h => h) (by rfl) ?_ (by assumption) ?_
            rotate_left
            · intro w hSw; (try dsimp only at hSw); go_simp; (try with_reducible rfl)
            try simp only [Act.put, List.setIfInBounds_toArray, List.set_cons_zero, List.set_cons_succ]
            refine held_take (v := ?_) 14 rfl rfl (by kernel_rfl) (by kernel_rfl) (by kernel_rfl) (fun _ _ _ h => h) (by rfl) ?_ (by assumption) ?_
            rotate_left
            · intro w hSw; (try dsimp only at hSw); go_simp; (try with_reducible rfl)
            try simp only [Act.put, List.setIfInBounds_toArray, List.set_cons_zero, List.set_cons_succ]
            refine held_step 15 rfl (by kernel_rfl) (by rfl) (fun K hK => ?_)
            go_simp
            refine (same_refl _ _).mono ?_
            rintro e w4 ⟨rfl, hbc⟩
            try go_wp2_with fail
            refine hK.out _ _ ?_ (fun hHeld1 => ?_)
            · (refine ⟨?_, ?_, ?_, ?_, ?_, ?_, ?_, ?_, ?_, ?_, ?_⟩ <;> (refine (hbc.cell (by first | (simp; done) | (simp; omega))).trans ?_; assumption))
            clear hK K hHeld0
            try simp only [Act.put, List.setIfInBounds_toArray, List.set_cons_zero, List.set_cons_succ]
            refine held_take (v := ?_) 16 rfl rfl (by kernel_rfl) (by kernel_rfl) (by kernel_rfl) (fun _ _ _ h => h) (by rfl) ?_ (by assumption) ?_
            rotate_left
            · intro w hSw; (try dsimp only at hSw); go_simp; (try with_reducible rfl)
            try simp only [Act.put, List.setIfInBounds_toArray, List.set_cons_zero, List.set_cons_succ]
            refine held_take (v := ?_) 17 rfl rfl (by kernel_rfl) (by kernel_rfl) (by kernel_rfl) (fun _ _ _ h => h) (by rfl) ?_ (by assumption) ?_
            rotate_left
            · intro w hSw; (try dsimp only at hSw); go_simp; (try with_reducible rfl)
            try simp only [Act.put, List.setIfInBounds_toArray, List.set_cons_zero, List.set_cons_succ]
            refine held_take (v := ?_) 18 rfl rfl (by kernel_rfl) (by kernel_rfl) (by kernel_rfl) (fun _ _ _ h => h) (by rfl) ?_ (by assumption) ?_
            rotate_left
            · intro w hSw; (try dsimp only at hSw); go_simp; (try with_reducible rfl)
            try simp only [Act.put, List.setIfInBounds_toArray, List.set_cons_zero, List.set_cons_succ]
            refine held_take (v := ?_) 19 rfl rfl (by kernel_rfl) (by kernel_rfl) (by kernel_rfl) (fun _ _ _ h => h) (by rfl) ?_ (by assumption) ?_
            rotate_left
            · intro w hSw; (try dsimp only at hSw); go_simp; (try with_reducible rfl)
            try simp only [Act.put, List.setIfInBounds_toArray, List.set_cons_zero, List.set_cons_succ]
            refine held_take (v := ?_) 20 rfl rfl (by kernel_rfl) (by kernel_rfl) (by kernel_rfl) (fun _ _ _ h => h) (by rfl) ?_ (by assumption) ?_
            rotate_left
            · intro w hSw; (try dsimp only at hSw); go_simp; (try with_reducible rfl)
            try simp only [Act.put, List.setIfInBounds_toArray, List.set_cons_zero, List.set_cons_succ]
            refine held_take (v := ?_) 21 rfl rfl (by kernel_rfl) (by kernel_rfl) (by kernel_rfl) (fun _ _ _ h => h) (by rfl) ?_ (by assumption) ?_
            rotate_left
            · intro w hSw; (try dsimp only at hSw); go_simp; (try with_reducible rfl)
            try simp only [Act.put, List.setIfInBounds_toArray, List.set_cons_zero, List.set_cons_succ]
            refine held_take (v := ?_) 22 rfl rfl (by kernel_rfl) (by kernel_rfl) (by kernel_rfl) (fun _ _ _ h => h) (by rfl) ?_ (by assumption) ?_
            rotate_left
            · intro w hSw; (try dsimp only at hSw); go_simp; (try with_reducible rfl)
            try simp only [Act.put, List.setIfInBounds_toArray, List.set_cons_zero, List.set_cons_succ]
            refine held_skip 23 rfl rfl (by kernel_rfl) (by kernel_rfl) (by kernel_rfl) (fun _ _ _ h => h) (by rfl) (by assumption) ?_
            try simp only [Act.put, List.setIfInBounds_toArray, List.set_cons_zero, List.set_cons_succ]
            refine held_skip 24 rfl rfl (by kernel_rfl) (by kernel_rfl) (by kernel_rfl) (fun _ _ _ h => h) (by rfl) (by assumption) ?_
            try simp only [Act.put, List.setIfInBounds_toArray, List.set_cons_zero, List.set_cons_succ]
            refine held_skip 25 rfl rfl (by kernel_rfl) (by kernel_rfl) (by kernel_rfl) (fun _ _ _ h => h) (by rfl) (by assumption) ?_
            try simp only [Act.put, List.setIfInBounds_toArray, List.set_cons_zero, List.set_cons_succ]
            refine held_skip 26 rfl rfl (by kernel_rfl) (by kernel_rfl) (by kernel_rfl) (fun _ _ _ h => h) (by rfl) (by assumption) ?_
            try simp only [Act.put, List.setIfInBounds_toArray, List.set_cons_zero, List.set_cons_succ]
            refine held_skip 27 rfl rfl (by kernel_rfl) (by kernel_rfl) (by kernel_rfl) (fun _ _ _ h => h) (by rfl) (by assumption) ?_
            try simp only [Act.put, List.setIfInBounds_toArray, List.set_cons_zero, List.set_cons_succ]
            refine held_skip 28 rfl rfl (by kernel_rfl) (by kernel_rfl) (by kernel_rfl) (fun _ _ _ h => h) (by rfl) (by assumption) ?_
            try simp only [Act.put, List.setIfInBounds_toArray, List.set_cons_zero, List.set_cons_succ]
            refine held_skip 29 rfl rfl (by kernel_rfl) (by kernel_rfl) (by kernel_rfl) (fun _ _ _ h => h) (by rfl) (by assumption) ?_
            try simp only [Act.put, List.setIfInBounds_toArray, List.set_cons_zero, List.set_cons_succ]
            refine held_skip 30 rfl rfl (by kernel_rfl) (by kernel_rfl) (by kernel_rfl) (fun _ _ _ h => h) (by rfl) (by assumption) ?_
            try simp only [Act.put, List.setIfInBounds_toArray, List.set_cons_zero, List.set_cons_succ]
            refine held_skip 31 rfl rfl (by kernel_rfl) (by kernel_rfl) (by kernel_rfl) (fun _ _ _ h => h) (by rfl) (by assumption) ?_
            try simp only [Act.put, List.setIfInBounds_toArray, List.set_cons_zero, List.set_cons_succ]
            refine held_skip 32 rfl rfl (by kernel_rfl) (by kernel_rfl) (by kernel_rfl) (fun _ _ _ h => h) (by rfl) (by assumption) ?_
            try simp only [Act.put, List.setIfInBounds_toArray, List.set_cons_zero, List.set_cons_succ]
            refine held_skip 33 rfl rfl (by kernel_rfl) (by kernel_rfl) (by kernel_rfl) (fun _ _ _ h => h) (by rfl) (by assumption) ?_
            try simp only [Act.put, List.setIfInBounds_toArray, List.set_cons_zero, List.set_cons_succ]
            refine held_skip 34 rfl rfl (by kernel_rfl) (by kernel_rfl) (by kernel_rfl) (fun _ _ _ h => h) (by rfl) (by assumption) ?_
            try simp only [Act.put, List.setIfInBounds_toArray, List.set_cons_zero, List.set_cons_succ]
            refine held_skip 35 rfl rfl (by kernel_rfl) (by kernel_rfl) (by kernel_rfl) (fun _ _ _ h => h) (by rfl) (by assumption) ?_
            try simp only [Act.put, List.setIfInBounds_toArray, List.set_cons_zero, List.set_cons_succ]
            refine held_skip 36 rfl rfl (by kernel_rfl) (by kernel_rfl) (by kernel_rfl) (fun _ _ _ h => h) (by rfl) (by assumption) ?_
            try simp only [Act.put, List.setIfInBounds_toArray, List.set_cons_zero, List.set_cons_succ]
            refine held_take (v := ?_) 37 rfl rfl (by kernel_rfl) (by kernel_rfl) (by kernel_rfl) (fun _ _ _ h => h) (by rfl) ?_ (by assumption) ?_
            rotate_left
            · intro w hSw; (try dsimp only at hSw); go_simp; (try with_reducible rfl)
            try simp only [Act.put, List.setIfInBounds_toArray, List.set_cons_zero, List.set_cons_succ]
            refine held_take (v := ?_) 38 rfl rfl (by kernel_rfl) (by kernel_rfl) (by kernel_rfl) (fun _ _ _ h => h) (by rfl) ?_ (by assumption) ?_
            rotate_left
            · intro w hSw; (try dsimp only at hSw); go_simp; (try with_reducible rfl)
            try simp only [Act.put, List.setIfInBounds_toArray, List.set_cons_zero, List.set_cons_succ]
            refine wpAnyH_done (by kernel_rfl) ?_ _
            clear hHeld1
            replace hbc := below_undrew hbc
            go_wp2_with fail
            go_meet
            exact ⟨rfl, hbc⟩
          · have b1 : decide (want < 0) = false := by simp; omega
            have b2 : (mail == 0) = false := by have := R.out.mkv; simp; omega
            have b3 : decide (0 ≤ want) = true := by simpa using hw1
            have b4 : (mail != mk) = false := by simp [hm1]
            have x4 : w3.cell? ⟨w1.heap.size + 1, want.toNat, none⟩ = some (.string nn1) := (blk_cell H2.out.ns _).trans hn1
            clear hm1 hn1
            go_wp2_with fail
            refine wp_region_held_drew (S := (fun w' => w'.cell? ⟨w1.heap.size, 0, none⟩ = some (.int .i64 h.o) ∧ w'.cell? ⟨w1.heap.size, 1, none⟩ = some (.int .u64 h.n) ∧ w'.cell? ⟨w1.heap.size, 2, none⟩ = some (.int .i64 h.i) ∧ w'.cell? ⟨w1.heap.size, 3, none⟩ = some (.int .u64 h.m) ∧ w'.cell? ⟨g, 0, none⟩ = some (.int .i64 a.o) ∧ w'.cell? ⟨g, 1, none⟩ = some (.int .u64 a.n) ∧ w'.cell? ⟨g, 2, none⟩ = some (.int .i64 a.i) ∧ w'.cell? ⟨g, 3, none⟩ = some (.int .u64 a.m) ∧ w'.cell? ⟨w2.heap.size + 1, k, none⟩ = some (.string ev) ∧ w'.cell? ⟨w2.heap.size + 1 + 1, k, none⟩ = some (.int .i64 mk) ∧ w'.cell? ⟨w2.heap.size + 1 + 1 + 1, k, none⟩ = some (.string ev2) ∧ w'.cell? ⟨w1.heap.size + 1, want.toNat, none⟩ = some (.string nn1))) (by kernel_rfl) ?_ (fun hHeld0 => ?_)
            · exact ⟨d0, d1, d2, d3, e0, e1, e2, e3, x1, x2, x3, x4⟩
            refine held_take (v := ?_) 0 rfl rfl (by kernel_rfl) (by kernel_rfl) (by kernel_rfl) (fun _ _ _ h => h) (by rfl) ?_ (by assumption) ?_
            rotate_left
            · intro w hSw; (try dsimp only at hSw); go_simp; (try with_reducible rfl)
            try simp only [Act.put, List.setIfInBounds_toArray, List.set_cons_zero, List.set_cons_succ]
            refine held_take (v := ?_) 1 rfl rfl (by kernel_rfl) (by kernel_rfl) (by kernel_rfl) (fun _ _ _ h => h) (by rfl) ?_ (by assumption) ?_
            rotate_left
            · intro w hSw; (try dsimp only at hSw); go_simp; (try with_reducible rfl)
            try simp only [Act.put, List.setIfInBounds_toArray, List.set_cons_zero, List.set_cons_succ]
            refine held_take (v := ?_) 2 rfl rfl (by kernel_rfl) (by kernel_rfl) (by kernel_rfl) (fun _ _ _ h => h) (by rfl) ?_ (by assumption) ?_
            rotate_left
            · intro w hSw; (try dsimp only at hSw); go_simp; (try with_reducible rfl)
            try simp only [Act.put, List.setIfInBounds_toArray, List.set_cons_zero, List.set_cons_succ]
            refine held_take (v := ?_) 3 rfl rfl (by kernel_rfl) (by kernel_rfl) (by kernel_rfl) (fun _ _ _ h => h) (by rfl) ?_ (by assumption) ?_
            rotate_left
            · intro w hSw; (try dsimp only at hSw); go_simp; (try with_reducible rfl)
            try simp only [Act.put, List.setIfInBounds_toArray, List.set_cons_zero, List.set_cons_succ]
            refine held_take (v := ?_) 4 rfl rfl (by kernel_rfl) (by kernel_rfl) (by kernel_rfl) (fun _ _ _ h => h) (by rfl) ?_ (by assumption) ?_
            rotate_left
            · intro w hSw; (try dsimp only at hSw); go_simp; (try with_reducible rfl)
            try simp only [Act.put, List.setIfInBounds_toArray, List.set_cons_zero, List.set_cons_succ]
            refine held_take (v := ?_) 5 rfl rfl (by kernel_rfl) (by kernel_rfl) (by kernel_rfl) (fun _ _ _ h => h) (by rfl) ?_ (by assumption) ?_
            rotate_left
            · intro w hSw; (try dsimp only at hSw); go_simp; (try with_reducible rfl)
            try simp only [Act.put, List.setIfInBounds_toArray, List.set_cons_zero, List.set_cons_succ]
            refine held_take (v := ?_) 6 rfl rfl (by kernel_rfl) (by kernel_rfl) (by kernel_rfl) (fun _ _ _ h => h) (by rfl) ?_ (by assumption) ?_
            rotate_left
            · intro w hSw; (try dsimp only at hSw); go_simp; (try with_reducible rfl)
            try simp only [Act.put, List.setIfInBounds_toArray, List.set_cons_zero, List.set_cons_succ]
            refine held_take (v := ?_) 7 rfl rfl (by kernel_rfl) (by kernel_rfl) (by kernel_rfl) (fun _ _ _ h => h) (by rfl) ?_ (by assumption) ?_
            rotate_left
            · intro w hSw; (try dsimp only at hSw); go_simp; (try with_reducible rfl)
            try simp only [Act.put, List.setIfInBounds_toArray, List.set_cons_zero, List.set_cons_succ]
            refine held_take (v := ?_) 8 rfl rfl (by kernel_rfl) (by kernel_rfl) (by kernel_rfl) (fun _ _ _ h => h) (by rfl) ?_ (by assumption) ?_
            rotate_left
            · intro w hSw; (try dsimp only at hSw); go_simp; (try with_reducible rfl)
            try simp only [Act.put, List.setIfInBounds_toArray, List.set_cons_zero, List.set_cons_succ]
            refine held_take (v := ?_) 9 rfl rfl (by kernel_rfl) (by kernel_rfl) (by kernel_rfl) (fun _ _ _ h => h) (by rfl) ?_ (by assumption) ?_
            rotate_left
            · intro w hSw; (try dsimp only at hSw); go_simp; (try with_reducible rfl)
            try simp only [Act.put, List.setIfInBounds_toArray, List.set_cons_zero, List.set_cons_succ]
            refine held_take (v := ?_) 10 rfl rfl (by kernel_rfl) (by kernel_rfl) (by kernel_rfl) (fun _ _ _ h => h) (by rfl) ?_ (by assumption) ?_
            rotate_left
            · intro w hSw; (try dsimp only at hSw); go_simp; (try with_reducible rfl)
            try simp only [Act.put, List.setIfInBounds_toArray, List.set_cons_zero, List.set_cons_succ]
            refine held_take (v := ?_) 11 rfl rfl (by kernel_rfl) (by kernel_rfl) (by kernel_rfl) (fun _ _ _ h => h) (by rfl) ?_ (by assumption) ?_
            rotate_left
            · intro w hSw; (try dsimp only at hSw); go_simp; (try with_reducible rfl)
            try simp only [Act.put, List.setIfInBounds_toArray, List.set_cons_zero, List.set_cons_succ]
            refine held_take (v := ?_) 12 rfl rfl (by kernel_rfl) (by kernel_rfl) (by kernel_rfl) (fun _ _ _ h => h) (by rfl) ?_ (by assumption) ?_
            rotate_left
            · intro w hSw; (try dsimp only at hSw); go_simp; (try with_reducible rfl)
            try simp only [Act.put, List.setIfInBounds_toArray, List.set_cons_zero, List.set_cons_succ]
            refine held_skip 13 rfl rfl (by kernel_rfl) (by kernel_rfl) (by kernel_rfl) (fun _ _ _ h => h) (by rfl) (by assumption) ?_
            try simp only [Act.put, List.setIfInBounds_toArray, List.set_cons_zero, List.set_cons_succ]
            refine held_skip 14 rfl rfl (by kernel_rfl) (by kernel_rfl) (by kernel_rfl) (fun _ _ _ h => h) (by rfl) (by assumption) ?_
            try simp only [Act.put, List.setIfInBounds_toArray, List.set_cons_zero, List.set_cons_succ]
            refine held_skip 15 rfl rfl (by kernel_rfl) (by kernel_rfl) (by kernel_rfl) (fun _ _ _ h => h) (by rfl) (by assumption) ?_
            try simp only [Act.put, List.setIfInBounds_toArray, List.set_cons_zero, List.set_cons_succ]
            refine held_skip 16 rfl rfl (by kernel_rfl) (by kernel_rfl) (by kernel_rfl) (fun _ _ _ h => h) (by rfl) (by assumption) ?_
            try simp only [Act.put, List.setIfInBounds_toArray, List.set_cons_zero, List.set_cons_succ]
            refine held_take (v := ?_) 17 rfl rfl (by kernel_rfl) (by kernel_rfl) (by kernel_rfl) (fun _ _ _ h => h) (by rfl) ?_ (by assumption) ?_
            rotate_left
            · intro w hSw; (try dsimp only at hSw); go_simp; (try with_reducible rfl)
            try simp only [Act.put, List.setIfInBounds_toArray, List.set_cons_zero, List.set_cons_succ]
            refine held_take (v := ?_) 18 rfl rfl (by kernel_rfl) (by kernel_rfl) (by kernel_rfl) (fun _ _ _ h => h) (by rfl) ?_ (by assumption) ?_
            rotate_left
            · intro w hSw; (try dsimp only at hSw); go_simp; (try with_reducible rfl)
            try simp only [Act.put, List.setIfInBounds_toArray, List.set_cons_zero, List.set_cons_succ]
            refine held_take (v := ?_) 19 rfl rfl (by kernel_rfl) (by kernel_rfl) (by kernel_rfl) (fun _ _ _ h => h) (by rfl) ?_ (by assumption) ?_
            rotate_left
            · intro w hSw; (try dsimp only at hSw); go_simp; (try with_reducible rfl)
            try simp only [Act.put, List.setIfInBounds_toArray, List.set_cons_zero, List.set_cons_succ]
            refine held_take (v := ?_) 20 rfl rfl (by kernel_rfl) (by kernel_rfl) (by kernel_rfl) (fun _ _ _ h => h) (by rfl) ?_ (by assumption) ?_
            rotate_left
            · intro w hSw; (try dsimp only at hSw); go_simp; (try with_reducible rfl)
            try simp only [Act.put, List.setIfInBounds_toArray, List.set_cons_zero, List.set_cons_succ]
            refine held_take (v := ?_) 21 rfl rfl (by kernel_rfl) (by kernel_rfl) (by kernel_rfl) (fun _ _ _ h => h) (by rfl) ?_ (by assumption) ?_
            rotate_left
            · intro w hSw; (try dsimp only at hSw); go_simp; (try with_reducible rfl)
            try simp only [Act.put, List.setIfInBounds_toArray, List.set_cons_zero, List.set_cons_succ]
            refine held_take (v := ?_) 22 rfl rfl (by kernel_rfl) (by kernel_rfl) (by kernel_rfl) (fun _ _ _ h => h) (by rfl) ?_ (by assumption) ?_
            rotate_left
            · intro w hSw; (try dsimp only at hSw); go_simp; (try with_reducible rfl)
            try simp only [Act.put, List.setIfInBounds_toArray, List.set_cons_zero, List.set_cons_succ]
            refine held_take (v := ?_) 23 rfl rfl (by kernel_rfl) (by kernel_rfl) (by kernel_rfl) (fun _ _ _ h => h) (by rfl) ?_ (by assumption) ?_
            rotate_left
            · intro w hSw; (try dsimp only at hSw); go_simp; (try with_reducible rfl)
            try simp only [Act.put, List.setIfInBounds_toArray, List.set_cons_zero, List.set_cons_succ]
            refine held_take (v := ?_) 25 rfl rfl (by kernel_rfl) (by kernel_rfl) (by kernel_rfl) (fun _ _ _ h => h) (by rfl) ?_ (by assumption) ?_
            rotate_left
            · intro w hSw; (try dsimp only at hSw); go_simp; (try with_reducible rfl)
            try simp only [Act.put, List.setIfInBounds_toArray, List.set_cons_zero, List.set_cons_succ]
            refine held_take (v := ?_) 26 rfl rfl (by kernel_rfl) (by kernel_rfl) (by kernel_rfl) (fun _ _ _ h => h) (by rfl) ?_ (by assumption) ?_
            rotate_left
            · intro w hSw; (try dsimp only at hSw); go_simp; (try with_reducible rfl)
            try simp only [Act.put, List.setIfInBounds_toArray, List.set_cons_zero, List.set_cons_succ]
            refine held_take (v := ?_) 27 rfl rfl (by kernel_rfl) (by kernel_rfl) (by kernel_rfl) (fun _ _ _ h => h) (by rfl) ?_ (by assumption) ?_
            rotate_left
            · intro w hSw; (try dsimp only at hSw); go_simp; (try with_reducible rfl)
            try simp only [Act.put, List.setIfInBounds_toArray, List.set_cons_zero, List.set_cons_succ]
            refine held_step 24 rfl (by kernel_rfl) (by rfl) (fun K hK => ?_)
            go_simp
            refine (hst1 _).mono ?_
            rintro e w4 ⟨rfl, hbc⟩
            try go_wp2_with fail
            refine hK.out _ _ ?_ (fun hHeld1 => ?_)
            · (refine ⟨?_, ?_, ?_, ?_, ?_, ?_, ?_, ?_, ?_, ?_, ?_, ?_⟩ <;> (refine (hbc.cell (by first | (simp; done) | (simp; omega))).trans ?_; assumption))
            clear hK K hHeld0
            try simp only [Act.put, List.setIfInBounds_toArray, List.set_cons_zero, List.set_cons_succ]
            refine held_take (v := ?_) 28 rfl rfl (by kernel_rfl) (by kernel_rfl) (by kernel_rfl) (fun _ _ _ h => h) (by rfl) ?_ (by assumption) ?_
            rotate_left
            · intro w hSw; (try dsimp only at hSw); go_simp; (try with_reducible rfl)
            try simp only [Act.put, List.setIfInBounds_toArray, List.set_cons_zero, List.set_cons_succ]
            refine held_take (v := ?_) 29 rfl rfl (by kernel_rfl) (by kernel_rfl) (by kernel_rfl) (fun _ _ _ h => h) (by rfl) ?_ (by assumption) ?_
            rotate_left
            · intro w hSw; (try dsimp only at hSw); go_simp; (try with_reducible rfl)
            try simp only [Act.put, List.setIfInBounds_toArray, List.set_cons_zero, List.set_cons_succ]
            refine held_take (v := ?_) 30 rfl rfl (by kernel_rfl) (by kernel_rfl) (by kernel_rfl) (fun _ _ _ h => h) (by rfl) ?_ (by assumption) ?_
            rotate_left
            · intro w hSw; (try dsimp only at hSw); go_simp; (try with_reducible rfl)
            try simp only [Act.put, List.setIfInBounds_toArray, List.set_cons_zero, List.set_cons_succ]
            refine held_take (v := ?_) 31 rfl rfl (by kernel_rfl) (by kernel_rfl) (by kernel_rfl) (fun _ _ _ h => h) (by rfl) ?_ (by assumption) ?_
            rotate_left
            · intro w hSw; (try dsimp only at hSw); go_simp; (try with_reducible rfl)
            try simp only [Act.put, List.setIfInBounds_toArray, List.set_cons_zero, List.set_cons_succ]
            refine held_take (v := ?_) 32 rfl rfl (by kernel_rfl) (by kernel_rfl) (by kernel_rfl) (fun _ _ _ h => h) (by rfl) ?_ (by assumption) ?_
            rotate_left
            · intro w hSw; (try dsimp only at hSw); go_simp; (try with_reducible rfl)
            try simp only [Act.put, List.setIfInBounds_toArray, List.set_cons_zero, List.set_cons_succ]
            refine held_take (v := ?_) 33 rfl rfl (by kernel_rfl) (by kernel_rfl) (by kernel_rfl) (fun _ _ _ h => h) (by rfl) ?_ (by assumption) ?_
            rotate_left
            · intro w hSw; (try dsimp only at hSw); go_simp; (try with_reducible rfl)
            try simp only [Act.put, List.setIfInBounds_toArray, List.set_cons_zero, List.set_cons_succ]
            refine held_take (v := ?_) 34 rfl rfl (by kernel_rfl) (by kernel_rfl) (by kernel_rfl) (fun _ _ _ h => h) (by rfl) ?_ (by assumption) ?_
            rotate_left
            · intro w hSw; (try dsimp only at hSw); go_simp; (try with_reducible rfl)
            try simp only [Act.put, List.setIfInBounds_toArray, List.set_cons_zero, List.set_cons_succ]
            refine held_take (v := ?_) 35 rfl rfl (by kernel_rfl) (by kernel_rfl) (by kernel_rfl) (fun _ _ _ h => h) (by rfl) ?_ (by assumption) ?_
            rotate_left
            · intro w hSw; (try dsimp only at hSw); go_simp; (try with_reducible rfl)
            try simp only [Act.put, List.setIfInBounds_toArray, List.set_cons_zero, List.set_cons_succ]
            refine held_take (v := ?_) 36 rfl rfl (by kernel_rfl) (by kernel_rfl) (by kernel_rfl) (fun _ _ _ h => h) (by rfl) ?_ (by assumption) ?_
            rotate_left
            · intro w hSw; (try dsimp only at hSw); go_simp; (try with_reducible rfl)
            try simp only [Act.put, List.setIfInBounds_toArray, List.set_cons_zero, List.set_cons_succ]
            refine held_take (v := ?_) 37 rfl rfl (by kernel_rfl) (by kernel_rfl) (by kernel_rfl) (fun _ _ _ h => h) (by rfl) ?_ (by assumption) ?_
            rotate_left
            · intro w hSw; (try dsimp only at hSw); go_simp; (try with_reducible rfl)
            try simp only [Act.put, List.setIfInBounds_toArray, List.set_cons_zero, List.set_cons_succ]
            refine held_take (v := ?_) 38 rfl rfl (by kernel_rfl) (by kernel_rfl) (by kernel_rfl) (fun _ _ _ h => h) (by rfl) ?_ (by assumption) ?_
            rotate_left
            · intro w hSw; (try dsimp only at hSw); go_simp; (try with_reducible rfl)
            try simp only [Act.put, List.setIfInBounds_toArray, List.set_cons_zero, List.set_cons_succ]
            refine wpAnyH_done (by kernel_rfl) ?_ _
            clear hHeld1
            replace hbc := below_undrew hbc
            go_wp2_with fail
            go_meet
            exact ⟨rfl, hbc⟩
        case rest =>
          obtain ⟨rfl, hbc⟩ := hcut
          clear hidx
          have tc := H2.out.call hbc
          have BG := blk_below H3.out hbc zG
          clear d0 d1 d2 d3 e0 e1 e2 e3 x1 x2 x3 zA zC zN zG H2 H3 hbc
          have H2 := Lib.hid tc
          have H3 := Lib.hid BG
          clear tc BG
          have d0 : wc.cell? ⟨w1.heap.size, 0, none⟩ = some (.int .i64 h.o) := blk_cell H2.out.hs 0
          have d1 : wc.cell? ⟨w1.heap.size, 1, none⟩ = some (.int .u64 h.n) := blk_cell H2.out.hs 1
          have d2 : wc.cell? ⟨w1.heap.size, 2, none⟩ = some (.int .i64 h.i) := blk_cell H2.out.hs 2
          have d3 : wc.cell? ⟨w1.heap.size, 3, none⟩ = some (.int .u64 h.m) := blk_cell H2.out.hs 3
          have e0 : wc.cell? ⟨g, 0, none⟩ = some (.int .i64 a.o) := blk_cell H3.out 0
          have e1 : wc.cell? ⟨g, 1, none⟩ = some (.int .u64 a.n) := blk_cell H3.out 1
          have e2 : wc.cell? ⟨g, 2, none⟩ = some (.int .i64 a.i) := blk_cell H3.out 2
          have e3 : wc.cell? ⟨g, 3, none⟩ = some (.int .u64 a.m) := blk_cell H3.out 3
          have x1 : wc.cell? ⟨w2.heap.size + 1, k, none⟩ = some (.string ev) := (blk_cell H2.out.ko k).trans R.out.fev
          have x2 : wc.cell? ⟨w2.heap.size + 1 + 1, k, none⟩ = some (.int .i64 mk) := (blk_cell H2.out.km k).trans R.out.fmk
          have x3 : wc.cell? ⟨w2.heap.size + 1 + 1 + 1, k, none⟩ = some (.string ev2) := (blk_cell H2.out.ki k).trans R.out.fev2
          have zA := blk_lt H2.out.hs
          have zC := blk_lt H2.out.ki
          have zN := blk_lt H2.out.ns
          have zG := blk_lt H3.out
          have g0 : wc.frozen? ⟨g, 0, none⟩ = false := blk_frozen H3.out 0
          have g1 : wc.frozen? ⟨g, 1, none⟩ = false := blk_frozen H3.out 1
          have g2 : wc.frozen? ⟨g, 2, none⟩ = false := blk_frozen H3.out 2
          have g3 : wc.frozen? ⟨g, 3, none⟩ = false := blk_frozen H3.out 3
          have hw5 := H5.out
          go_upto_if 120 with fail
          obtain ⟨n20, h20⟩ : ∃ x, x = (if k < 2 then m else n) := ⟨_, rfl⟩
          have H20 := Lib.hid h20
          clear h20
          go_cut [20] (fun s20 wx => s20 = .int .u64 n20 ∧ wc = wx)
          case first =>
            by_cases hk2 : k < 2
            · have b1 : decide ((k : Int) < 2) = true := by simp; omega
              go_wp2_with fail
              go_meet
              exact ⟨by rw [H20.out, if_pos hk2], rfl⟩
            · have b1 : decide ((k : Int) < 2) = false := by simp; omega
              go_wp2_with fail
              go_meet
              exact ⟨by rw [H20.out, if_neg hk2], rfl⟩
          case rest =>
            obtain ⟨rfl, rfl⟩ := hcut
            go_upto_if 126 with fail
            go_cut [20] (fun s20 wx => s20 = .int .u64 num ∧ wc = wx)
            case first =>
              have hnum := R.out.fnum
              by_cases hk0 : k = 0
              · have b1 : (mk == 1) = true := by have := R.out.mkv; simp; omega
                rw [if_pos hk0] at hnum
                have HNUM := Lib.hid hnum
                clear hnum hk0
                go_wp2_with fail
                go_meet
                exact ⟨by rw [HNUM.out], rfl⟩
              · have b1 : (mk == 1) = false := by have := R.out.mkv; simp; omega
                have hnum2 : num = n20 := by rw [hnum, if_neg hk0, H20.out]; split <;> split <;> first | rfl | omega
                have HNUM := Lib.hid hnum2
                clear hnum hnum2 hk0
                go_wp2_with fail
                go_meet
                exact ⟨by rw [HNUM.out], rfl⟩
            case rest =>
              obtain ⟨rfl, rfl⟩ := hcut
              clear H20
              go_wp2_with fail
              go_cut [15, 18, 21] (fun s15 s18 s21 wx => s15 = .pointer (some ⟨g, 0, none⟩) ∧ s18 = .int .i64 0 ∧ s21 = .int .i64 tell ∧ TMem w.heap.size w1.heap.size w2.heap.size w wx h ∧ wx.heap[g]? = some (.cells #[.int .i64 c.o, .int .u64 c.n, .int .i64 c.i, .int .u64 c.m] 25))
              case first =>
                have zn1 : g ≠ w1.heap.size := by omega
                have zn2 : g ≠ w2.heap.size + 1 + 1 := by omega
                refine wp_region_held_drew (S := (fun w' => w'.cell? ⟨w1.heap.size, 0, none⟩ = some (.int .i64 h.o) ∧ w'.cell? ⟨w1.heap.size, 1, none⟩ = some (.int .u64 h.n) ∧ w'.cell? ⟨w1.heap.size, 2, none⟩ = some (.int .i64 h.i) ∧ w'.cell? ⟨w1.heap.size, 3, none⟩ = some (.int .u64 h.m) ∧ w'.cell? ⟨w2.heap.size + 1 + 1, k, none⟩ = some (.int .i64 mk))) (by kernel_rfl) ?_ (fun hHeld0 => ?_)
                · exact ⟨d0, d1, d2, d3, x2⟩
                refine held_take (v := ?_) 0 rfl rfl (by kernel_rfl) (by kernel_rfl) (by kernel_rfl) (fun _ _ _ h => h) (by rfl) ?_ (by assumption) ?_
                rotate_left
                · intro w hSw; (try dsimp only at hSw); go_simp; (try with_reducible rfl)
                try simp only [Act.put, List.setIfInBounds_toArray, List.set_cons_zero, List.set_cons_succ]
                refine held_take (v := ?_) 1 rfl rfl (by kernel_rfl) (by kernel_rfl) (by kernel_rfl) (fun _ _ _ h => h) (by rfl) ?_ (by assumption) ?_
                rotate_left
                · intro w hSw; (try dsimp only at hSw); go_simp; (try with_reducible rfl)
                try simp only [Act.put, List.setIfInBounds_toArray, List.set_cons_zero, List.set_cons_succ]
                refine held_take (v := ?_) 2 rfl rfl (by kernel_rfl) (by kernel_rfl) (by kernel_rfl) (fun _ _ _ h => h) (by rfl) ?_ (by assumption) ?_
                rotate_left
                · intro w hSw; (try dsimp only at hSw); go_simp; (try with_reducible rfl)
                try simp only [Act.put, List.setIfInBounds_toArray, List.set_cons_zero, List.set_cons_succ]
                refine held_take (v := ?_) 3 rfl rfl (by kernel_rfl) (by kernel_rfl) (by kernel_rfl) (fun _ _ _ h => h) (by rfl) ?_ (by assumption) ?_
                rotate_left
                · intro w hSw; (try dsimp only at hSw); go_simp; (try with_reducible rfl)
                try simp only [Act.put, List.setIfInBounds_toArray, List.set_cons_zero, List.set_cons_succ]
                refine held_take (v := ?_) 4 rfl rfl (by kernel_rfl) (by kernel_rfl) (by kernel_rfl) (fun _ _ _ h => h) (by rfl) ?_ (by assumption) ?_
                rotate_left
                · intro w hSw; (try dsimp only at hSw); go_simp; (try with_reducible rfl)
                try simp only [Act.put, List.setIfInBounds_toArray, List.set_cons_zero, List.set_cons_succ]
                refine held_take (v := ?_) 5 rfl rfl (by kernel_rfl) (by kernel_rfl) (by kernel_rfl) (fun _ _ _ h => h) (by rfl) ?_ (by assumption) ?_
                rotate_left
                · intro w hSw; (try dsimp only at hSw); go_simp; (try with_reducible rfl)
                try simp only [Act.put, List.setIfInBounds_toArray, List.set_cons_zero, List.set_cons_succ]
                refine held_step 6 rfl (by kernel_rfl) (by rfl) (fun K hK => ?_)
                go_simp
                refine (R.out.hear _).mono ?_
                rintro e w5 ⟨rfl, hbc⟩
                try go_wp2_with fail
                refine hK.out _ _ ?_ (fun hHeld1 => ?_)
                · (refine ⟨?_, ?_, ?_, ?_, ?_⟩ <;> (refine (hbc.cell (by first | (simp; done) | (simp; omega))).trans ?_; assumption))
                clear hK K hHeld0
                try simp only [Act.put, List.setIfInBounds_toArray, List.set_cons_zero, List.set_cons_succ]
                refine held_take (v := ?_) 7 rfl rfl (by kernel_rfl) (by kernel_rfl) (by kernel_rfl) (fun _ _ _ h => h) (by rfl) ?_ (by assumption) ?_
                rotate_left
                · intro w hSw; (try dsimp only at hSw); go_simp; (try with_reducible rfl)
                try simp only [Act.put, List.setIfInBounds_toArray, List.set_cons_zero, List.set_cons_succ]
                refine held_take (v := ?_) 8 rfl rfl (by kernel_rfl) (by kernel_rfl) (by kernel_rfl) (fun _ _ _ h => h) (by rfl) ?_ (by assumption) ?_
                rotate_left
                · intro w hSw; (try dsimp only at hSw); go_simp; (try with_reducible rfl)
                try simp only [Act.put, List.setIfInBounds_toArray, List.set_cons_zero, List.set_cons_succ]
                refine held_take (v := ?_) 9 rfl rfl (by kernel_rfl) (by kernel_rfl) (by kernel_rfl) (fun _ _ _ h => h) (by rfl) ?_ (by assumption) ?_
                rotate_left
                · intro w hSw; (try dsimp only at hSw); go_simp; (try with_reducible rfl)
                try simp only [Act.put, List.setIfInBounds_toArray, List.set_cons_zero, List.set_cons_succ]
                refine held_take (v := ?_) 10 rfl rfl (by kernel_rfl) (by kernel_rfl) (by kernel_rfl) (fun _ _ _ h => h) (by rfl) ?_ (by assumption) ?_
                rotate_left
                · intro w hSw; (try dsimp only at hSw); go_simp; (try with_reducible rfl)
                try simp only [Act.put, List.setIfInBounds_toArray, List.set_cons_zero, List.set_cons_succ]
                refine held_step 11 rfl (by kernel_rfl) (by rfl) (fun K hK => ?_)
                have BG5 := blk_below H3.out (below_undrew hbc) zG
                have y0 : w5.cell? ⟨g, 0, none⟩ = some (.int .i64 a.o) := blk_cell BG5 0
                have y1 : w5.cell? ⟨g, 1, none⟩ = some (.int .u64 a.n) := blk_cell BG5 1
                have y2 : w5.cell? ⟨g, 2, none⟩ = some (.int .i64 a.i) := blk_cell BG5 2
                have y3 : w5.cell? ⟨g, 3, none⟩ = some (.int .u64 a.m) := blk_cell BG5 3
                have z0 : w5.frozen? ⟨g, 0, none⟩ = false := blk_frozen BG5 0
                have z1 : w5.frozen? ⟨g, 1, none⟩ = false := blk_frozen BG5 1
                have z2 : w5.frozen? ⟨g, 2, none⟩ = false := blk_frozen BG5 2
                have z3 : w5.frozen? ⟨g, 3, none⟩ = false := blk_frozen BG5 3
                clear BG5
                go_simp
                try go_wp2_with fail
                refine hK.out _ _ ?_ (fun hHeld2 => ?_)
                · (refine ⟨?_, ?_, ?_, ?_, ?_⟩ <;> simp [*, World.cell?_setCell_far])
                clear hK K hHeld1
                try simp only [Act.put, List.setIfInBounds_toArray, List.set_cons_zero, List.set_cons_succ]
                refine held_take (v := ?_) 12 rfl rfl (by kernel_rfl) (by kernel_rfl) (by kernel_rfl) (fun _ _ _ h => h) (by rfl) ?_ (by assumption) ?_
                rotate_left
                · intro w hSw; (try dsimp only at hSw); go_simp; (try with_reducible rfl)
                try simp only [Act.put, List.setIfInBounds_toArray, List.set_cons_zero, List.set_cons_succ]
                refine held_take (v := ?_) 13 rfl rfl (by kernel_rfl) (by kernel_rfl) (by kernel_rfl) (fun _ _ _ h => h) (by rfl) ?_ (by assumption) ?_
                rotate_left
                · intro w hSw; (try dsimp only at hSw); go_simp; (try with_reducible rfl)
                try simp only [Act.put, List.setIfInBounds_toArray, List.set_cons_zero, List.set_cons_succ]
                refine wpAnyH_done (by kernel_rfl) ?_ _
                clear hHeld2
                replace hbc := below_undrew hbc
                go_wp2_with fail
                go_meet
                exact ⟨rfl, rfl, rfl, ((((H2.out.call hbc).set zg1 zg2 _ _).set zg1 zg2 _ _).set zg1 zg2 _ _).set zg1 zg2 _ _, blk_set_same (blk_set_same (blk_set_same (blk_set_same (blk_below H3.out hbc zG) 0 _) 1 _) 2 _) 3 _⟩
              case rest =>
                obtain ⟨rfl, rfl, rfl, tc, BG⟩ := hcut
                clear d0 d1 d2 d3 e0 e1 e2 e3 x1 x2 x3 zA zC zN zG g0 g1 g2 g3 H2 H3
                have H2 := Lib.hid tc
                have H3 := Lib.hid BG
                clear tc BG hw5
                have d0 : wc.cell? ⟨w1.heap.size, 0, none⟩ = some (.int .i64 h.o) := blk_cell H2.out.hs 0
                have d1 : wc.cell? ⟨w1.heap.size, 1, none⟩ = some (.int .u64 h.n) := blk_cell H2.out.hs 1
                have d2 : wc.cell? ⟨w1.heap.size, 2, none⟩ = some (.int .i64 h.i) := blk_cell H2.out.hs 2
                have d3 : wc.cell? ⟨w1.heap.size, 3, none⟩ = some (.int .u64 h.m) := blk_cell H2.out.hs 3
                have e0 : wc.cell? ⟨g, 0, none⟩ = some (.int .i64 c.o) := blk_cell H3.out 0
                have e1 : wc.cell? ⟨g, 1, none⟩ = some (.int .u64 c.n) := blk_cell H3.out 1
                have e2 : wc.cell? ⟨g, 2, none⟩ = some (.int .i64 c.i) := blk_cell H3.out 2
                have e3 : wc.cell? ⟨g, 3, none⟩ = some (.int .u64 c.m) := blk_cell H3.out 3
                have x1 : wc.cell? ⟨w2.heap.size + 1, k, none⟩ = some (.string ev) := (blk_cell H2.out.ko k).trans R.out.fev
                have x2 : wc.cell? ⟨w2.heap.size + 1 + 1, k, none⟩ = some (.int .i64 mk) := (blk_cell H2.out.km k).trans R.out.fmk
                have x3 : wc.cell? ⟨w2.heap.size + 1 + 1 + 1, k, none⟩ = some (.string ev2) := (blk_cell H2.out.ki k).trans R.out.fev2
                have zA := blk_lt H2.out.hs
                have zC := blk_lt H2.out.ki
                have zN := blk_lt H2.out.ns
                have zG := blk_lt H3.out
                have hidx := R.out.idx2
                go_wp2_with fail
                refine (R.out.tab2 _).mono ?_
                rintro e w6 ⟨rfl, hbc⟩
                have tc := H2.out.call hbc
                have BG := blk_below H3.out hbc zG
                clear d0 d1 d2 d3 e0 e1 e2 e3 x1 x2 x3 zA zC zN zG H2 H3 hbc
                have H2 := Lib.hid tc
                have H3 := Lib.hid BG
                clear tc BG
                have d0 : w6.cell? ⟨w1.heap.size, 0, none⟩ = some (.int .i64 h.o) := blk_cell H2.out.hs 0
                have d1 : w6.cell? ⟨w1.heap.size, 1, none⟩ = some (.int .u64 h.n) := blk_cell H2.out.hs 1
                have d2 : w6.cell? ⟨w1.heap.size, 2, none⟩ = some (.int .i64 h.i) := blk_cell H2.out.hs 2
                have d3 : w6.cell? ⟨w1.heap.size, 3, none⟩ = some (.int .u64 h.m) := blk_cell H2.out.hs 3
                have e0 : w6.cell? ⟨g, 0, none⟩ = some (.int .i64 c.o) := blk_cell H3.out 0
                have e1 : w6.cell? ⟨g, 1, none⟩ = some (.int .u64 c.n) := blk_cell H3.out 1
                have e2 : w6.cell? ⟨g, 2, none⟩ = some (.int .i64 c.i) := blk_cell H3.out 2
                have e3 : w6.cell? ⟨g, 3, none⟩ = some (.int .u64 c.m) := blk_cell H3.out 3
                have x1 : w6.cell? ⟨w2.heap.size + 1, k, none⟩ = some (.string ev) := (blk_cell H2.out.ko k).trans R.out.fev
                have x2 : w6.cell? ⟨w2.heap.size + 1 + 1, k, none⟩ = some (.int .i64 mk) := (blk_cell H2.out.km k).trans R.out.fmk
                have x3 : w6.cell? ⟨w2.heap.size + 1 + 1 + 1, k, none⟩ = some (.string ev2) := (blk_cell H2.out.ki k).trans R.out.fev2
                have zA := blk_lt H2.out.hs
                have zC := blk_lt H2.out.ki
                have zN := blk_lt H2.out.ns
                have zG := blk_lt H3.out
                by_cases hk0 : k = 0
                · have b0 : (mk == 1) = true := by have := R.out.mkv; simp; omega
                  have HK0 := Lib.hid hk0
                  clear hk0
                  rcases R.out.two with ⟨hw1, _⟩ | ⟨hw1, hw9, ht, nn1, hn1, hst1⟩
                  · as_aux_lemma =>
                    have b1 : decide (want2 < 0) = true := by simpa using hw1
                    go_wp2_with fail
                    go_roundg (3 - k)
                    case measure => omega
                    case rel => exact ⟨k + 1, by omega, by omega, by go_num, H2.out⟩
                  · as_aux_lemma =>
                    have b1 : decide (want2 < 0) = false := by simp; omega
                    have b2 : (tell == 0) = false := by simpa using ht
                    have b3 : decide (0 ≤ want2) = true := by simpa using hw1
                    have x4 : w6.cell? ⟨w1.heap.size + 1, want2.toNat, none⟩ = some (.string nn1) := (blk_cell H2.out.ns _).trans hn1
                    clear hn1 ht
                    go_wp2_with fail
                    refine wp_region_held_drew (S := (fun w' => w'.cell? ⟨w1.heap.size, 0, none⟩ = some (.int .i64 h.o) ∧ w'.cell? ⟨w1.heap.size, 1, none⟩ = some (.int .u64 h.n) ∧ w'.cell? ⟨w1.heap.size, 2, none⟩ = some (.int .i64 h.i) ∧ w'.cell? ⟨w1.heap.size, 3, none⟩ = some (.int .u64 h.m) ∧ w'.cell? ⟨g, 0, none⟩ = some (.int .i64 c.o) ∧ w'.cell? ⟨g, 1, none⟩ = some (.int .u64 c.n) ∧ w'.cell? ⟨g, 2, none⟩ = some (.int .i64 c.i) ∧ w'.cell? ⟨g, 3, none⟩ = some (.int .u64 c.m) ∧ w'.cell? ⟨w2.heap.size + 1, k, none⟩ = some (.string ev) ∧ w'.cell? ⟨w2.heap.size + 1 + 1, k, none⟩ = some (.int .i64 mk) ∧ w'.cell? ⟨w2.heap.size + 1 + 1 + 1, k, none⟩ = some (.string ev2) ∧ w'.cell? ⟨w1.heap.size + 1, want2.toNat, none⟩ = some (.string nn1))) (by kernel_rfl) ?_ (fun hHeld0 => ?_)
                    · exact ⟨d0, d1, d2, d3, e0, e1, e2, e3, x1, x2, x3, x4⟩
                    refine held_take (v := ?_) 0 rfl rfl (by kernel_rfl) (by kernel_rfl) (by kernel_rfl) (fun _ _ _ h => h) (by rfl) ?_ (by assumption) ?_
                    rotate_left
                    · intro w hSw; (try dsimp only at hSw); go_simp; (try with_reducible rfl)
                    try simp only [Act.put, List.setIfInBounds_toArray, List.set_cons_zero, List.set_cons_succ]
                    refine held_take (v := ?_) 1 rfl rfl (by kernel_rfl) (by kernel_rfl) (by kernel_rfl) (fun _ _ _ h => h) (by rfl) ?_ (by assumption) ?_
                    rotate_left
                    · intro w hSw; (try dsimp only at hSw); go_simp; (try with_reducible rfl)
                    try simp only [Act.put, List.setIfInBounds_toArray, List.set_cons_zero, List.set_cons_succ]
                    refine held_take (v := ?_) 2 rfl rfl (by kernel_rfl) (by kernel_rfl) (by kernel_rfl) (fun _ _ _ h => h) (by rfl) ?_ (by assumption) ?_
                    rotate_left
                    · intro w hSw; (try dsimp only at hSw); go_simp; (try with_reducible rfl)
                    try simp only [Act.put, List.setIfInBounds_toArray, List.set_cons_zero, List.set_cons_succ]
                    refine held_take (v := ?_) 3 rfl rfl (by kernel_rfl) (by kernel_rfl) (by kernel_rfl) (fun _ _ _ h => h) (by rfl) ?_ (by assumption) ?_
                    rotate_left
                    · intro w hSw; (try dsimp only at hSw); go_simp; (try with_reducible rfl)
                    try simp only [Act.put, List.setIfInBounds_toArray, List.set_cons_zero, List.set_cons_succ]
                    refine held_take (v := ?_) 4 rfl rfl (by kernel_rfl) (by kernel_rfl) (by kernel_rfl) (fun _ _ _ h => h) (by rfl) ?_ (by assumption) ?_
                    rotate_left
                    · intro w hSw; (try dsimp only at hSw); go_simp; (try with_reducible rfl)
                    try simp only [Act.put, List.setIfInBounds_toArray, List.set_cons_zero, List.set_cons_succ]
                    refine held_take (v := ?_) 5 rfl rfl (by kernel_rfl) (by kernel_rfl) (by kernel_rfl) (fun _ _ _ h => h) (by rfl) ?_ (by assumption) ?_
                    rotate_left
                    · intro w hSw; (try dsimp only at hSw); go_simp; (try with_reducible rfl)
                    try simp only [Act.put, List.setIfInBounds_toArray, List.set_cons_zero, List.set_cons_succ]
                    refine held_take (v := ?_) 6 rfl rfl (by kernel_rfl) (by kernel_rfl) (by kernel_rfl) (fun _ _ _ h => h) (by rfl) ?_ (by assumption) ?_
                    rotate_left
                    · intro w hSw; (try dsimp only at hSw); go_simp; (try with_reducible rfl)
                    try simp only [Act.put, List.setIfInBounds_toArray, List.set_cons_zero, List.set_cons_succ]
                    refine held_take (v := ?_) 7 rfl rfl (by kernel_rfl) (by kernel_rfl) (by kernel_rfl) (fun _ _ _ h => h) (by rfl) ?_ (by assumption) ?_
                    rotate_left
                    · intro w hSw; (try dsimp only at hSw); go_simp; (try with_reducible rfl)
                    try simp only [Act.put, List.setIfInBounds_toArray, List.set_cons_zero, List.set_cons_succ]
                    refine held_take (v := ?_) 8 rfl rfl (by kernel_rfl) (by kernel_rfl) (by kernel_rfl) (fun _ _ _ h => h) (by rfl) ?_ (by assumption) ?_
                    rotate_left
                    · intro w hSw; (try dsimp only at hSw); go_simp; (try with_reducible rfl)
                    try simp only [Act.put, List.setIfInBounds_toArray, List.set_cons_zero, List.set_cons_succ]
                    refine held_take (v := ?_) 9 rfl rfl (by kernel_rfl) (by kernel_rfl) (by kernel_rfl) (fun _ _ _ h => h) (by rfl) ?_ (by assumption) ?_
                    rotate_left
                    · intro w hSw; (try dsimp only at hSw); go_simp; (try with_reducible rfl)
                    try simp only [Act.put, List.setIfInBounds_toArray, List.set_cons_zero, List.set_cons_succ]
                    refine held_take (v := ?_) 10 rfl rfl (by kernel_rfl) (by kernel_rfl) (by kernel_rfl) (fun _ _ _ h => h) (by rfl) ?_ (by assumption) ?_
                    rotate_left
                    · intro w hSw; (try dsimp only at hSw); go_simp; (try with_reducible rfl)
                    try simp only [Act.put, List.setIfInBounds_toArray, List.set_cons_zero, List.set_cons_succ]
                    refine held_take (v := ?_) 11 rfl rfl (by kernel_rfl) (by kernel_rfl) (by kernel_rfl) (fun _ _ _ h => h) (by rfl) ?_ (by assumption) ?_
                    rotate_left
                    · intro w hSw; (try dsimp only at hSw); go_simp; (try with_reducible rfl)
                    try simp only [Act.put, List.setIfInBounds_toArray, List.set_cons_zero, List.set_cons_succ]
                    refine held_take (v := ?_) 12 rfl rfl (by kernel_rfl) (by kernel_rfl) (by kernel_rfl) (fun _ _ _ h => h) (by rfl) ?_ (by assumption) ?_
                    rotate_left
                    · intro w hSw; (try dsimp only at hSw); go_simp; (try with_reducible rfl)
                    try simp only [Act.put, List.setIfInBounds_toArray, List.set_cons_zero, List.set_cons_succ]
                    refine held_skip 13 rfl rfl (by kernel_rfl) (by kernel_rfl) (by kernel_rfl) (fun _ _ _ h => h) (by rfl) (by assumption) ?_
                    try simp only [Act.put, List.setIfInBounds_toArray, List.set_cons_zero, List.set_cons_succ]
                    refine held_skip 14 rfl rfl (by kernel_rfl) (by kernel_rfl) (by kernel_rfl) (fun _ _ _ h => h) (by rfl) (by assumption) ?_
                    try simp only [Act.put, List.setIfInBounds_toArray, List.set_cons_zero, List.set_cons_succ]
                    refine held_skip 15 rfl rfl (by kernel_rfl) (by kernel_rfl) (by kernel_rfl) (fun _ _ _ h => h) (by rfl) (by assumption) ?_
                    try simp only [Act.put, List.setIfInBounds_toArray, List.set_cons_zero, List.set_cons_succ]
                    refine held_skip 16 rfl rfl (by kernel_rfl) (by kernel_rfl) (by kernel_rfl) (fun _ _ _ h => h) (by rfl) (by assumption) ?_
                    try simp only [Act.put, List.setIfInBounds_toArray, List.set_cons_zero, List.set_cons_succ]
                    refine held_take (v := ?_) 17 rfl rfl (by kernel_rfl) (by kernel_rfl) (by kernel_rfl) (fun _ _ _ h => h) (by rfl) ?_ (by assumption) ?_
                    rotate_left
                    · intro w hSw; (try dsimp only at hSw); go_simp; (try with_reducible rfl)
                    try simp only [Act.put, List.setIfInBounds_toArray, List.set_cons_zero, List.set_cons_succ]
                    refine held_take (v := ?_) 18 rfl rfl (by kernel_rfl) (by kernel_rfl) (by kernel_rfl) (fun _ _ _ h => h) (by rfl) ?_ (by assumption) ?_
                    rotate_left
                    · intro w hSw; (try dsimp only at hSw); go_simp; (try with_reducible rfl)
                    try simp only [Act.put, List.setIfInBounds_toArray, List.set_cons_zero, List.set_cons_succ]
                    refine held_take (v := ?_) 19 rfl rfl (by kernel_rfl) (by kernel_rfl) (by kernel_rfl) (fun _ _ _ h => h) (by rfl) ?_ (by assumption) ?_
                    rotate_left
                    · intro w hSw; (try dsimp only at hSw); go_simp; (try with_reducible rfl)
                    try simp only [Act.put, List.setIfInBounds_toArray, List.set_cons_zero, List.set_cons_succ]
                    refine held_take (v := ?_) 20 rfl rfl (by kernel_rfl) (by kernel_rfl) (by kernel_rfl) (fun _ _ _ h => h) (by rfl) ?_ (by assumption) ?_
                    rotate_left
                    · intro w hSw; (try dsimp only at hSw); go_simp; (try with_reducible rfl)
                    try simp only [Act.put, List.setIfInBounds_toArray, List.set_cons_zero, List.set_cons_succ]
                    refine held_take (v := ?_) 21 rfl rfl (by kernel_rfl) (by kernel_rfl) (by kernel_rfl) (fun _ _ _ h => h) (by rfl) ?_ (by assumption) ?_
                    rotate_left
                    · intro w hSw; (try dsimp only at hSw); go_simp; (try with_reducible rfl)
                    try simp only [Act.put, List.setIfInBounds_toArray, List.set_cons_zero, List.set_cons_succ]
                    refine held_take (v := ?_) 22 rfl rfl (by kernel_rfl) (by kernel_rfl) (by kernel_rfl) (fun _ _ _ h => h) (by rfl) ?_ (by assumption) ?_
                    rotate_left
                    · intro w hSw; (try dsimp only at hSw); go_simp; (try with_reducible rfl)
                    try simp only [Act.put, List.setIfInBounds_toArray, List.set_cons_zero, List.set_cons_succ]
                    refine held_take (v := ?_) 23 rfl rfl (by kernel_rfl) (by kernel_rfl) (by kernel_rfl) (fun _ _ _ h => h) (by rfl) ?_ (by assumption) ?_
                    rotate_left
                    · intro w hSw; (try dsimp only at hSw); go_simp; (try with_reducible rfl)
                    try simp only [Act.put, List.setIfInBounds_toArray, List.set_cons_zero, List.set_cons_succ]
                    refine held_take (v := ?_) 25 rfl rfl (by kernel_rfl) (by kernel_rfl) (by kernel_rfl) (fun _ _ _ h => h) (by rfl) ?_ (by assumption) ?_
                    rotate_left
                    · intro w hSw; (try dsimp only at hSw); go_simp; (try with_reducible rfl)
                    try simp only [Act.put, List.setIfInBounds_toArray, List.set_cons_zero, List.set_cons_succ]
                    refine held_take (v := ?_) 26 rfl rfl (by kernel_rfl) (by kernel_rfl) (by kernel_rfl) (fun _ _ _ h => h) (by rfl) ?_ (by assumption) ?_
                    rotate_left
                    · intro w hSw; (try dsimp only at hSw); go_simp; (try with_reducible rfl)
                    try simp only [Act.put, List.setIfInBounds_toArray, List.set_cons_zero, List.set_cons_succ]
                    refine held_take (v := ?_) 27 rfl rfl (by kernel_rfl) (by kernel_rfl) (by kernel_rfl) (fun _ _ _ h => h) (by rfl) ?_ (by assumption) ?_
                    rotate_left
                    · intro w hSw; (try dsimp only at hSw); go_simp; (try with_reducible rfl)
                    try simp only [Act.put, List.setIfInBounds_toArray, List.set_cons_zero, List.set_cons_succ]
                    refine held_step 24 rfl (by kernel_rfl) (by rfl) (fun K hK => ?_)
                    go_simp
                    refine (hst1 _).mono ?_
                    rintro e w7 ⟨rfl, hbc⟩
                    try go_wp2_with fail
                    refine hK.out _ _ ?_ (fun hHeld1 => ?_)
                    · (refine ⟨?_, ?_, ?_, ?_, ?_, ?_, ?_, ?_, ?_, ?_, ?_, ?_⟩ <;> (refine (hbc.cell (by first | (simp; done) | (simp; omega))).trans ?_; assumption))
                    clear hK K hHeld0
                    try simp only [Act.put, List.setIfInBounds_toArray, List.set_cons_zero, List.set_cons_succ]
                    refine held_take (v := ?_) 28 rfl rfl (by kernel_rfl) (by kernel_rfl) (by kernel_rfl) (fun _ _ _ h => h) (by rfl) ?_ (by assumption) ?_
                    rotate_left
                    · intro w hSw; (try dsimp only at hSw); go_simp; (try with_reducible rfl)
                    try simp only [Act.put, List.setIfInBounds_toArray, List.set_cons_zero, List.set_cons_succ]
                    refine held_take (v := ?_) 29 rfl rfl (by kernel_rfl) (by kernel_rfl) (by kernel_rfl) (fun _ _ _ h => h) (by rfl) ?_ (by assumption) ?_
                    rotate_left
                    · intro w hSw; (try dsimp only at hSw); go_simp; (try with_reducible rfl)
                    try simp only [Act.put, List.setIfInBounds_toArray, List.set_cons_zero, List.set_cons_succ]
                    refine held_take (v := ?_) 30 rfl rfl (by kernel_rfl) (by kernel_rfl) (by kernel_rfl) (fun _ _ _ h => h) (by rfl) ?_ (by assumption) ?_
                    rotate_left
                    · intro w hSw; (try dsimp only at hSw); go_simp; (try with_reducible rfl)
                    try simp only [Act.put, List.setIfInBounds_toArray, List.set_cons_zero, List.set_cons_succ]
                    refine wpAnyH_done (by kernel_rfl) ?_ _
                    clear hHeld1
                    replace hbc := below_undrew hbc
                    have tc := H2.out.call hbc
                    have BG := blk_below H3.out hbc zG
                    clear d0 d1 d2 d3 e0 e1 e2 e3 x1 x2 x3 zA zC zN zG x4 H2 H3 hbc
                    have H2 := Lib.hid tc
                    have H3 := Lib.hid BG
                    clear tc BG
                    go_wp2_with fail
                    go_roundg (3 - k)
                    case measure => omega
                    case rel => exact ⟨k + 1, by omega, by omega, by go_num, H2.out⟩
                · have b0 : (mk == 1) = false := by have := R.out.mkv; simp; omega
                  rcases R.out.two with ⟨hw1, hor⟩ | ⟨hw1, hw9, ht, nn1, hn1, hst1⟩
                  · as_aux_lemma =>
                    have htc := hor.resolve_left hk0
                    clear hor
                    have b1 : decide (want2 < 0) = true := by simpa using hw1
                    have b2 : (tell == 0) = true := by simp [htc.1]
                    have b3 : decide (0 ≤ want2) = false := by simp; omega
                    have ha2 := htc.2.symm
                    subst ha2
                    clear htc
                    go_wp2_with fail
                    refine wp_region_held_drew (S := (fun w' => w'.cell? ⟨w1.heap.size, 0, none⟩ = some (.int .i64 h.o) ∧ w'.cell? ⟨w1.heap.size, 1, none⟩ = some (.int .u64 h.n) ∧ w'.cell? ⟨w1.heap.size, 2, none⟩ = some (.int .i64 h.i) ∧ w'.cell? ⟨w1.heap.size, 3, none⟩ = some (.int .u64 h.m) ∧ w'.cell? ⟨g, 0, none⟩ = some (.int .i64 h.o) ∧ w'.cell? ⟨g, 1, none⟩ = some (.int .u64 h.n) ∧ w'.cell? ⟨g, 2, none⟩ = some (.int .i64 h.i) ∧ w'.cell? ⟨g, 3, none⟩ = some (.int .u64 h.m) ∧ w'.cell? ⟨w2.heap.size + 1, k, none⟩ = some (.string ev) ∧ w'.cell? ⟨w2.heap.size + 1 + 1, k, none⟩ = some (.int .i64 mk) ∧ w'.cell? ⟨w2.heap.size + 1 + 1 + 1, k, none⟩ = some (.string ev2))) (by kernel_rfl) ?_ (fun hHeld0 => ?_)
                    · exact ⟨d0, d1, d2, d3, e0, e1, e2, e3, x1, x2, x3⟩
                    refine held_take (v := ?_) 0 rfl rfl (by kernel_rfl) (by kernel_rfl) (by kernel_rfl) (fun _ _ _ h => h) (by rfl) ?_ (by assumption) ?_
                    rotate_left
                    · intro w hSw; (try dsimp only at hSw); go_simp; (try with_reducible rfl)
                    try simp only [Act.put, List.setIfInBounds_toArray, List.set_cons_zero, List.set_cons_succ]
                    refine held_take (v := ?_) 1 rfl rfl (by kernel_rfl) (by kernel_rfl) (by kernel_rfl) (fun _ _ _ h => h) (by rfl) ?_ (by assumption) ?_
                    rotate_left
                    · intro w hSw; (try dsimp only at hSw); go_simp; (try with_reducible rfl)
                    try simp only [Act.put, List.setIfInBounds_toArray, List.set_cons_zero, List.set_cons_succ]
                    refine held_take (v := ?_) 2 rfl rfl (by kernel_rfl) (by kernel_rfl) (by kernel_rfl) (fun _ _ _ h => h) (by rfl) ?_ (by assumption) ?_
                    rotate_left
                    · intro w hSw; (try dsimp only at hSw); go_simp; (try with_reducible rfl)
                    try simp only [Act.put, List.setIfInBounds_toArray, List.set_cons_zero, List.set_cons_succ]
                    refine held_take (v := ?_) 3 rfl rfl (by kernel_rfl) (by kernel_rfl) (by kernel_rfl) (fun _ _ _ h => h) (by rfl) ?_ (by assumption) ?_
                    rotate_left
                    · intro w hSw; (try dsimp only at hSw); go_simp; (try with_reducible rfl)
                    try simp only [Act.put, List.setIfInBounds_toArray, List.set_cons_zero, List.set_cons_succ]
                    refine held_take (v := ?_) 4 rfl rfl (by kernel_rfl) (by kernel_rfl) (by kernel_rfl) (fun _ _ _ h => h) (by rfl) ?_ (by assumption) ?_
                    rotate_left
                    · intro w hSw; (try dsimp only at hSw); go_simp; (try with_reducible rfl)
                    try simp only [Act.put, List.setIfInBounds_toArray, List.set_cons_zero, List.set_cons_succ]
                    refine held_take (v := ?_) 5 rfl rfl (by kernel_rfl) (by kernel_rfl) (by kernel_rfl) (fun _ _ _ h => h) (by rfl) ?_ (by assumption) ?_
                    rotate_left
                    · intro w hSw; (try dsimp only at hSw); go_simp; (try with_reducible rfl)
                    try simp only [Act.put, List.setIfInBounds_toArray, List.set_cons_zero, List.set_cons_succ]
                    refine held_take (v := ?_) 6 rfl rfl (by kernel_rfl) (by kernel_rfl) (by kernel_rfl) (fun _ _ _ h => h) (by rfl) ?_ (by assumption) ?_
                    rotate_left
                    · intro w hSw; (try dsimp only at hSw); go_simp; (try with_reducible rfl)
                    try simp only [Act.put, List.setIfInBounds_toArray, List.set_cons_zero, List.set_cons_succ]
                    refine held_take (v := ?_) 7 rfl rfl (by kernel_rfl) (by kernel_rfl) (by kernel_rfl) (fun _ _ _ h => h) (by rfl) ?_ (by assumption) ?_
                    rotate_left
                    · intro w hSw; (try dsimp only at hSw); go_simp; (try with_reducible rfl)
                    try simp only [Act.put, List.setIfInBounds_toArray, List.set_cons_zero, List.set_cons_succ]
                    refine held_take (v := ?_) 8 rfl rfl (by kernel_rfl) (by kernel_rfl) (by kernel_rfl) (fun _ _ _ h => h) (by rfl) ?_ (by assumption) ?_
                    rotate_left
                    · intro w hSw; (try dsimp only at hSw); go_simp; (try with_reducible rfl)
                    try simp only [Act.put, List.setIfInBounds_toArray, List.set_cons_zero, List.set_cons_succ]
                    refine held_take (v := ?_) 9 rfl rfl (by kernel_rfl) (by kernel_rfl) (by kernel_rfl) (fun _ _ _ h => h) (by rfl) ?_ (by assumption) ?_
                    rotate_left
                    · intro w hSw; (try dsimp only at hSw); go_simp; (try with_reducible rfl)
                    try simp only [Act.put, List.setIfInBounds_toArray, List.set_cons_zero, List.set_cons_succ]
                    refine held_take (v := ?_) 10 rfl rfl (by kernel_rfl) (by kernel_rfl) (by kernel_rfl) (fun _ _ _ h => h) (by rfl) ?_ (by assumption) ?_
                    rotate_left
                    · intro w hSw; (try dsimp only at hSw); go_simp; (try with_reducible rfl)
                    try simp only [Act.put, List.setIfInBounds_toArray, List.set_cons_zero, List.set_cons_succ]
                    refine held_take (v := ?_) 11 rfl rfl (by kernel_rfl) (by kernel_rfl) (by kernel_rfl) (fun _ _ _ h => h) (by rfl) ?_ (by assumption) ?_
                    rotate_left
                    · intro w hSw; (try dsimp only at hSw); go_simp; (try with_reducible rfl)
                    try simp only [Act.put, List.setIfInBounds_toArray, List.set_cons_zero, List.set_cons_succ]
                    refine held_take (v := ?_) 12 rfl rfl (by kernel_rfl) (by kernel_rfl) (by kernel_rfl) (fun _ _ _ h => h) (by rfl) ?_ (by assumption) ?_
                    rotate_left
                    · intro w hSw; (try dsimp only at hSw); go_simp; (try with_reducible rfl)
                    try simp only [Act.put, List.setIfInBounds_toArray, List.set_cons_zero, List.set_cons_succ]
                    refine held_take (v := ?_) 13 rfl rfl (by kernel_rfl) (by kernel_rfl) (by kernel_rfl) (fun _ _ _ h => h) (by rfl) ?_ (by assumption) ?_
                    rotate_left
                    · intro w hSw; (try dsimp only at hSw); go_simp; (try with_reducible rfl)
                    try simp only [Act.put, List.setIfInBounds_toArray, List.set_cons_zero, List.set_cons_succ]
                    refine held_take (v := ?_) 14 rfl rfl (by kernel_rfl) (by kernel_rfl) (by kernel_rfl) (fun _ _ _ h => h) (by rfl) ?_ (by assumption) ?_
                    rotate_left
                    · intro w hSw; (try dsimp only at hSw); go_simp; (try with_reducible rfl)
                    try simp only [Act.put, List.setIfInBounds_toArray, List.set_cons_zero, List.set_cons_succ]
                    refine held_step 15 rfl (by kernel_rfl) (by rfl) (fun K hK => ?_)
                    go_simp
                    refine (same_refl _ _).mono ?_
                    rintro e w7 ⟨rfl, hbc⟩
                    try go_wp2_with fail
                    refine hK.out _ _ ?_ (fun hHeld1 => ?_)
                    · (refine ⟨?_, ?_, ?_, ?_, ?_, ?_, ?_, ?_, ?_, ?_, ?_⟩ <;> (refine (hbc.cell (by first | (simp; done) | (simp; omega))).trans ?_; assumption))
                    clear hK K hHeld0
                    try simp only [Act.put, List.setIfInBounds_toArray, List.set_cons_zero, List.set_cons_succ]
                    refine held_take (v := ?_) 16 rfl rfl (by kernel_rfl) (by kernel_rfl) (by kernel_rfl) (fun _ _ _ h => h) (by rfl) ?_ (by assumption) ?_
                    rotate_left
                    · intro w hSw; (try dsimp only at hSw); go_simp; (try with_reducible rfl)
                    try simp only [Act.put, List.setIfInBounds_toArray, List.set_cons_zero, List.set_cons_succ]
                    refine held_take (v := ?_) 17 rfl rfl (by kernel_rfl) (by kernel_rfl) (by kernel_rfl) (fun _ _ _ h => h) (by rfl) ?_ (by assumption) ?_
                    rotate_left
                    · intro w hSw; (try dsimp only at hSw); go_simp; (try with_reducible rfl)
                    try simp only [Act.put, List.setIfInBounds_toArray, List.set_cons_zero, List.set_cons_succ]
                    refine held_take (v := ?_) 18 rfl rfl (by kernel_rfl) (by kernel_rfl) (by kernel_rfl) (fun _ _ _ h => h) (by rfl) ?_ (by assumption) ?_
                    rotate_left
                    · intro w hSw; (try dsimp only at hSw); go_simp; (try with_reducible rfl)
                    try simp only [Act.put, List.setIfInBounds_toArray, List.set_cons_zero, List.set_cons_succ]
                    refine held_take (v := ?_) 19 rfl rfl (by kernel_rfl) (by kernel_rfl) (by kernel_rfl) (fun _ _ _ h => h) (by rfl) ?_ (by assumption) ?_
                    rotate_left
                    · intro w hSw; (try dsimp only at hSw); go_simp; (try with_reducible rfl)
                    try simp only [Act.put, List.setIfInBounds_toArray, List.set_cons_zero, List.set_cons_succ]
                    refine held_take (v := ?_) 20 rfl rfl (by kernel_rfl) (by kernel_rfl) (by kernel_rfl) (fun _ _ _ h => h) (by rfl) ?_ (by assumption) ?_
                    rotate_left
                    · intro w hSw; (try dsimp only at hSw); go_simp; (try with_reducible rfl)
                    try simp only [Act.put, List.setIfInBounds_toArray, List.set_cons_zero, List.set_cons_succ]
                    refine held_take (v := ?_) 21 rfl rfl (by kernel_rfl) (by kernel_rfl) (by kernel_rfl) (fun _ _ _ h => h) (by rfl) ?_ (by assumption) ?_
                    rotate_left
                    · intro w hSw; (try dsimp only at hSw); go_simp; (try with_reducible rfl)
                    try simp only [Act.put, List.setIfInBounds_toArray, List.set_cons_zero, List.set_cons_succ]
                    refine held_take (v := ?_) 22 rfl rfl (by kernel_rfl) (by kernel_rfl) (by kernel_rfl) (fun _ _ _ h => h) (by rfl) ?_ (by assumption) ?_
                    rotate_left
                    · intro w hSw; (try dsimp only at hSw); go_simp; (try with_reducible rfl)
                    try simp only [Act.put, List.setIfInBounds_toArray, List.set_cons_zero, List.set_cons_succ]
                    refine held_skip 23 rfl rfl (by kernel_rfl) (by kernel_rfl) (by kernel_rfl) (fun _ _ _ h => h) (by rfl) (by assumption) ?_
                    try simp only [Act.put, List.setIfInBounds_toArray, List.set_cons_zero, List.set_cons_succ]
                    refine held_skip 24 rfl rfl (by kernel_rfl) (by kernel_rfl) (by kernel_rfl) (fun _ _ _ h => h) (by rfl) (by assumption) ?_
                    try simp only [Act.put, List.setIfInBounds_toArray, List.set_cons_zero, List.set_cons_succ]
                    refine held_skip 25 rfl rfl (by kernel_rfl) (by kernel_rfl) (by kernel_rfl) (fun _ _ _ h => h) (by rfl) (by assumption) ?_
                    try simp only [Act.put, List.setIfInBounds_toArray, List.set_cons_zero, List.set_cons_succ]
                    refine held_skip 26 rfl rfl (by kernel_rfl) (by kernel_rfl) (by kernel_rfl) (fun _ _ _ h => h) (by rfl) (by assumption) ?_
                    try simp only [Act.put, List.setIfInBounds_toArray, List.set_cons_zero, List.set_cons_succ]
                    refine held_skip 27 rfl rfl (by kernel_rfl) (by kernel_rfl) (by kernel_rfl) (fun _ _ _ h => h) (by rfl) (by assumption) ?_
                    try simp only [Act.put, List.setIfInBounds_toArray, List.set_cons_zero, List.set_cons_succ]
                    refine held_skip 28 rfl rfl (by kernel_rfl) (by kernel_rfl) (by kernel_rfl) (fun _ _ _ h => h) (by rfl) (by assumption) ?_
                    try simp only [Act.put, List.setIfInBounds_toArray, List.set_cons_zero, List.set_cons_succ]
                    refine held_take (v := ?_) 29 rfl rfl (by kernel_rfl) (by kernel_rfl) (by kernel_rfl) (fun _ _ _ h => h) (by rfl) ?_ (by assumption) ?_
                    rotate_left
                    · intro w hSw; (try dsimp only at hSw); go_simp; (try with_reducible rfl)
                    try simp only [Act.put, List.setIfInBounds_toArray, List.set_cons_zero, List.set_cons_succ]
                    refine held_take (v := ?_) 30 rfl rfl (by kernel_rfl) (by kernel_rfl) (by kernel_rfl) (fun _ _ _ h => h) (by rfl) ?_ (by assumption) ?_
                    rotate_left
                    · intro w hSw; (try dsimp only at hSw); go_simp; (try with_reducible rfl)
                    try simp only [Act.put, List.setIfInBounds_toArray, List.set_cons_zero, List.set_cons_succ]
                    refine wpAnyH_done (by kernel_rfl) ?_ _
                    clear hHeld1
                    replace hbc := below_undrew hbc
                    have tc := H2.out.call hbc
                    have BG := blk_below H3.out hbc zG
                    clear d0 d1 d2 d3 e0 e1 e2 e3 x1 x2 x3 zA zC zN zG H2 H3 hbc
                    have H2 := Lib.hid tc
                    have H3 := Lib.hid BG
                    clear tc BG
                    go_wp2_with fail
                    go_roundg (3 - k)
                    case measure => omega
                    case rel => exact ⟨k + 1, by omega, by omega, by go_num, H2.out⟩
                  · as_aux_lemma =>
                    have b1 : decide (want2 < 0) = false := by simp; omega
                    have b2 : (tell == 0) = false := by simpa using ht
                    have b3 : decide (0 ≤ want2) = true := by simpa using hw1
                    have x4 : w6.cell? ⟨w1.heap.size + 1, want2.toNat, none⟩ = some (.string nn1) := (blk_cell H2.out.ns _).trans hn1
                    clear hn1 ht
                    go_wp2_with fail
                    refine wp_region_held_drew (S := (fun w' => w'.cell? ⟨w1.heap.size, 0, none⟩ = some (.int .i64 h.o) ∧ w'.cell? ⟨w1.heap.size, 1, none⟩ = some (.int .u64 h.n) ∧ w'.cell? ⟨w1.heap.size, 2, none⟩ = some (.int .i64 h.i) ∧ w'.cell? ⟨w1.heap.size, 3, none⟩ = some (.int .u64 h.m) ∧ w'.cell? ⟨g, 0, none⟩ = some (.int .i64 c.o) ∧ w'.cell? ⟨g, 1, none⟩ = some (.int .u64 c.n) ∧ w'.cell? ⟨g, 2, none⟩ = some (.int .i64 c.i) ∧ w'.cell? ⟨g, 3, none⟩ = some (.int .u64 c.m) ∧ w'.cell? ⟨w2.heap.size + 1, k, none⟩ = some (.string ev) ∧ w'.cell? ⟨w2.heap.size + 1 + 1, k, none⟩ = some (.int .i64 mk) ∧ w'.cell? ⟨w2.heap.size + 1 + 1 + 1, k, none⟩ = some (.string ev2) ∧ w'.cell? ⟨w1.heap.size + 1, want2.toNat, none⟩ = some (.string nn1))) (by kernel_rfl) ?_ (fun hHeld0 => ?_)
                    · exact ⟨d0, d1, d2, d3, e0, e1, e2, e3, x1, x2, x3, x4⟩
                    refine held_take (v := ?_) 0 rfl rfl (by kernel_rfl) (by kernel_rfl) (by kernel_rfl) (fun _ _ _ h => h) (by rfl) ?_ (by assumption) ?_
                    rotate_left
                    · intro w hSw; (try dsimp only at hSw); go_simp; (try with_reducible rfl)
                    try simp only [Act.put, List.setIfInBounds_toArray, List.set_cons_zero, List.set_cons_succ]
                    refine held_take (v := ?_) 1 rfl rfl (by kernel_rfl) (by kernel_rfl) (by kernel_rfl) (fun _ _ _ h => h) (by rfl) ?_ (by assumption) ?_
                    rotate_left
                    · intro w hSw; (try dsimp only at hSw); go_simp; (try with_reducible rfl)
                    try simp only [Act.put, List.setIfInBounds_toArray, List.set_cons_zero, List.set_cons_succ]
                    refine held_take (v := ?_) 2 rfl rfl (by kernel_rfl) (by kernel_rfl) (by kernel_rfl) (fun _ _ _ h => h) (by rfl) ?_ (by assumption) ?_
                    rotate_left
                    · intro w hSw; (try dsimp only at hSw); go_simp; (try with_reducible rfl)
                    try simp only [Act.put, List.setIfInBounds_toArray, List.set_cons_zero, List.set_cons_succ]
                    refine held_take (v := ?_) 3 rfl rfl (by kernel_rfl) (by kernel_rfl) (by kernel_rfl) (fun _ _ _ h => h) (by rfl) ?_ (by assumption) ?_
                    rotate_left
                    · intro w hSw; (try dsimp only at hSw); go_simp; (try with_reducible rfl)
                    try simp only [Act.put, List.setIfInBounds_toArray, List.set_cons_zero, List.set_cons_succ]
                    refine held_take (v := ?_) 4 rfl rfl (by kernel_rfl) (by kernel_rfl) (by kernel_rfl) (fun _ _ _ h => h) (by rfl) ?_ (by assumption) ?_
                    rotate_left
                    · intro w hSw; (try dsimp only at hSw); go_simp; (try with_reducible rfl)
                    try simp only [Act.put, List.setIfInBounds_toArray, List.set_cons_zero, List.set_cons_succ]
                    refine held_take (v := ?_) 5 rfl rfl (by kernel_rfl) (by kernel_rfl) (by kernel_rfl) (fun _ _ _ h => h) (by rfl) ?_ (by assumption) ?_
                    rotate_left
                    · intro w hSw; (try dsimp only at hSw); go_simp; (try with_reducible rfl)
                    try simp only [Act.put, List.setIfInBounds_toArray, List.set_cons_zero, List.set_cons_succ]
                    refine held_take (v := ?_) 6 rfl rfl (by kernel_rfl) (by kernel_rfl) (by kernel_rfl) (fun _ _ _ h => h) (by rfl) ?_ (by assumption) ?_
                    rotate_left
                    · intro w hSw; (try dsimp only at hSw); go_simp; (try with_reducible rfl)
                    try simp only [Act.put, List.setIfInBounds_toArray, List.set_cons_zero, List.set_cons_succ]
                    refine held_take (v := ?_) 7 rfl rfl (by kernel_rfl) (by kernel_rfl) (by kernel_rfl) (fun _ _ _ h => h) (by rfl) ?_ (by assumption) ?_
                    rotate_left
                    · intro w hSw; (try dsimp only at hSw); go_simp; (try with_reducible rfl)
                    try simp only [Act.put, List.setIfInBounds_toArray, List.set_cons_zero, List.set_cons_succ]
                    refine held_take (v := ?_) 8 rfl rfl (by kernel_rfl) (by kernel_rfl) (by kernel_rfl) (fun _ _ _ h => h) (by rfl) ?_ (by assumption) ?_
                    rotate_left
                    · intro w hSw; (try dsimp only at hSw); go_simp; (try with_reducible rfl)
                    try simp only [Act.put, List.setIfInBounds_toArray, List.set_cons_zero, List.set_cons_succ]
                    refine held_take (v := ?_) 9 rfl rfl (by kernel_rfl) (by kernel_rfl) (by kernel_rfl) (fun _ _ _ h => h) (by rfl) ?_ (by assumption) ?_
                    rotate_left
                    · intro w hSw; (try dsimp only at hSw); go_simp; (try with_reducible rfl)
                    try simp only [Act.put, List.setIfInBounds_toArray, List.set_cons_zero, List.set_cons_succ]
                    refine held_take (v := ?_) 10 rfl rfl (by kernel_rfl) (by kernel_rfl) (by kernel_rfl) (fun _ _ _ h => h) (by rfl) ?_ (by assumption) ?_
                    rotate_left
                    · intro w hSw; (try dsimp only at hSw); go_simp; (try with_reducible rfl)
                    try simp only [Act.put, List.setIfInBounds_toArray, List.set_cons_zero, List.set_cons_succ]
                    refine held_take (v := ?_) 11 rfl rfl (by kernel_rfl) (by kernel_rfl) (by kernel_rfl) (fun _ _ _ h => h) (by rfl) ?_ (by assumption) ?_
                    rotate_left
                    · intro w hSw; (try dsimp only at hSw); go_simp; (try with_reducible rfl)
                    try simp only [Act.put, List.setIfInBounds_toArray, List.set_cons_zero, List.set_cons_succ]
                    refine held_take (v := ?_) 12 rfl rfl (by kernel_rfl) (by kernel_rfl) (by kernel_rfl) (fun _ _ _ h => h) (by rfl) ?_ (by assumption) ?_
                    rotate_left
                    · intro w hSw; (try dsimp only at hSw); go_simp; (try with_reducible rfl)
                    try simp only [Act.put, List.setIfInBounds_toArray, List.set_cons_zero, List.set_cons_succ]
                    refine held_skip 13 rfl rfl (by kernel_rfl) (by kernel_rfl) (by kernel_rfl) (fun _ _ _ h => h) (by rfl) (by assumption) ?_
                    try simp only [Act.put, List.setIfInBounds_toArray, List.set_cons_zero, List.set_cons_succ]
                    refine held_skip 14 rfl rfl (by kernel_rfl) (by kernel_rfl) (by kernel_rfl) (fun _ _ _ h => h) (by rfl) (by assumption) ?_
                    try simp only [Act.put, List.setIfInBounds_toArray, List.set_cons_zero, List.set_cons_succ]
                    refine held_skip 15 rfl rfl (by kernel_rfl) (by kernel_rfl) (by kernel_rfl) (fun _ _ _ h => h) (by rfl) (by assumption) ?_
                    try simp only [Act.put, List.setIfInBounds_toArray, List.set_cons_zero, List.set_cons_succ]
                    refine held_skip 16 rfl rfl (by kernel_rfl) (by kernel_rfl) (by kernel_rfl) (fun _ _ _ h => h) (by rfl) (by assumption) ?_
                    try simp only [Act.put, List.setIfInBounds_toArray, List.set_cons_zero, List.set_cons_succ]
                    refine held_take (v := ?_) 17 rfl rfl (by kernel_rfl) (by kernel_rfl) (by kernel_rfl) (fun _ _ _ h => h) (by rfl) ?_ (by assumption) ?_
                    rotate_left
                    · intro w hSw; (try dsimp only at hSw); go_simp; (try with_reducible rfl)
                    try simp only [Act.put, List.setIfInBounds_toArray, List.set_cons_zero, List.set_cons_succ]
                    refine held_take (v := ?_) 18 rfl rfl (by kernel_rfl) (by kernel_rfl) (by kernel_rfl) (fun _ _ _ h => h) (by rfl) ?_ (by assumption) ?_
                    rotate_left
                    · intro w hSw; (try dsimp only at hSw); go_simp; (try with_reducible rfl)
                    try simp only [Act.put, List.setIfInBounds_toArray, List.set_cons_zero, List.set_cons_succ]
                    refine held_take (v := ?_) 19 rfl rfl (by kernel_rfl) (by kernel_rfl) (by kernel_rfl) (fun _ _ _ h => h) (by rfl) ?_ (by assumption) ?_
                    rotate_left
                    · intro w hSw; (try dsimp only at hSw); go_simp; (try with_reducible rfl)
                    try simp only [Act.put, List.setIfInBounds_toArray, List.set_cons_zero, List.set_cons_succ]
                    refine held_take (v := ?_) 20 rfl rfl (by kernel_rfl) (by kernel_rfl) (by kernel_rfl) (fun _ _ _ h => h) (by rfl) ?_ (by assumption) ?_
                    rotate_left
                    · intro w hSw; (try dsimp only at hSw); go_simp; (try with_reducible rfl)
                    try simp only [Act.put, List.setIfInBounds_toArray, List.set_cons_zero, List.set_cons_succ]
                    refine held_take (v := ?_) 21 rfl rfl (by kernel_rfl) (by kernel_rfl) (by kernel_rfl) (fun _ _ _ h => h) (by rfl) ?_ (by assumption) ?_
                    rotate_left
                    · intro w hSw; (try dsimp only at hSw); go_simp; (try with_reducible rfl)
                    try simp only [Act.put, List.setIfInBounds_toArray, List.set_cons_zero, List.set_cons_succ]
                    refine held_take (v := ?_) 22 rfl rfl (by kernel_rfl) (by kernel_rfl) (by kernel_rfl) (fun _ _ _ h => h) (by rfl) ?_ (by assumption) ?_
                    rotate_left
                    · intro w hSw; (try dsimp only at hSw); go_simp; (try with_reducible rfl)
                    try simp only [Act.put, List.setIfInBounds_toArray, List.set_cons_zero, List.set_cons_succ]
                    refine held_take (v := ?_) 23 rfl rfl (by kernel_rfl) (by kernel_rfl) (by kernel_rfl) (fun _ _ _ h => h) (by rfl) ?_ (by assumption) ?_
                    rotate_left
                    · intro w hSw; (try dsimp only at hSw); go_simp; (try with_reducible rfl)
                    try simp only [Act.put, List.setIfInBounds_toArray, List.set_cons_zero, List.set_cons_succ]
                    refine held_take (v := ?_) 25 rfl rfl (by kernel_rfl) (by kernel_rfl) (by kernel_rfl) (fun _ _ _ h => h) (by rfl) ?_ (by assumption) ?_
                    rotate_left
                    · intro w hSw; (try dsimp only at hSw); go_simp; (try with_reducible rfl)
                    try simp only [Act.put, List.setIfInBounds_toArray, List.set_cons_zero, List.set_cons_succ]
                    refine held_take (v := ?_) 26 rfl rfl (by kernel_rfl) (by kernel_rfl) (by kernel_rfl) (fun _ _ _ h => h) (by rfl) ?_ (by assumption) ?_
                    rotate_left
                    · intro w hSw; (try dsimp only at hSw); go_simp; (try with_reducible rfl)
                    try simp only [Act.put, List.setIfInBounds_toArray, List.set_cons_zero, List.set_cons_succ]
                    refine held_take (v := ?_) 27 rfl rfl (by kernel_rfl) (by kernel_rfl) (by kernel_rfl) (fun _ _ _ h => h) (by rfl) ?_ (by assumption) ?_
                    rotate_left
                    · intro w hSw; (try dsimp only at hSw); go_simp; (try with_reducible rfl)
                    try simp only [Act.put, List.setIfInBounds_toArray, List.set_cons_zero, List.set_cons_succ]
                    refine held_step 24 rfl (by kernel_rfl) (by rfl) (fun K hK => ?_)
                    go_simp
                    refine (hst1 _).mono ?_
                    rintro e w7 ⟨rfl, hbc⟩
                    try go_wp2_with fail
                    refine hK.out _ _ ?_ (fun hHeld1 => ?_)
                    · (refine ⟨?_, ?_, ?_, ?_, ?_, ?_, ?_, ?_, ?_, ?_, ?_, ?_⟩ <;> (refine (hbc.cell (by first | (simp; done) | (simp; omega))).trans ?_; assumption))
                    clear hK K hHeld0
                    try simp only [Act.put, List.setIfInBounds_toArray, List.set_cons_zero, List.set_cons_succ]
                    refine held_take (v := ?_) 28 rfl rfl (by kernel_rfl) (by kernel_rfl) (by kernel_rfl) (fun _ _ _ h => h) (by rfl) ?_ (by assumption) ?_
                    rotate_left
                    · intro w hSw; (try dsimp only at hSw); go_simp; (try with_reducible rfl)
                    try simp only [Act.put, List.setIfInBounds_toArray, List.set_cons_zero, List.set_cons_succ]
                    refine held_take (v := ?_) 29 rfl rfl (by kernel_rfl) (by kernel_rfl) (by kernel_rfl) (fun _ _ _ h => h) (by rfl) ?_ (by assumption) ?_
                    rotate_left
                    · intro w hSw; (try dsimp only at hSw); go_simp; (try with_reducible rfl)
                    try simp only [Act.put, List.setIfInBounds_toArray, List.set_cons_zero, List.set_cons_succ]
                    refine held_take (v := ?_) 30 rfl rfl (by kernel_rfl) (by kernel_rfl) (by kernel_rfl) (fun _ _ _ h => h) (by rfl) ?_ (by assumption) ?_
                    rotate_left
                    · intro w hSw; (try dsimp only at hSw); go_simp; (try with_reducible rfl)
                    try simp only [Act.put, List.setIfInBounds_toArray, List.set_cons_zero, List.set_cons_succ]
                    refine wpAnyH_done (by kernel_rfl) ?_ _
                    clear hHeld1
                    replace hbc := below_undrew hbc
                    have tc := H2.out.call hbc
                    have BG := blk_below H3.out hbc zG
                    clear d0 d1 d2 d3 e0 e1 e2 e3 x1 x2 x3 zA zC zN zG x4 H2 H3 hbc
                    have H2 := Lib.hid tc
                    have H3 := Lib.hid BG
                    clear tc BG
                    go_wp2_with fail
                    go_roundg (3 - k)
                    case measure => omega
                    case rel => exact ⟨k + 1, by omega, by omega, by go_num, H2.out⟩

    · obtain rfl : k = 4 := by omega
      go_wp2_with fail
      refine (wakes_any _).mono ?_
      rintro e w4 ⟨rfl, hb4⟩
      go_wp2_with fail
      go_ret
      exact ⟨rfl, (HT.out.call hb4).below⟩

end Go.Proofs.Ytgaimcdkbknljaa
