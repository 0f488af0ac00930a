/- Texts, sorted, none twice: slices.Compact(slices.Sorted(slices.Values(l))). -/
import Derived.Test.YthbjcihdlhkboaaGreatDoorShelf
import Derived.Test.YthbjcihdlhkboaaGreatDoorRb0
import Derived.RangeFuncBound
namespace Go.Proofs.YthbjcihdlhkboaaGreatDoor
set_option linter.unusedSimpArgs false
set_option linter.unusedVariables false
open Go.RowKit Go.Maps Go.Sort Go.Shelf Go.Lib

/-- An iterator that gives xs, so long as what lay ahead of it stands. -/
def GivesB (F : Fence) (n : Nat) (P : Program) (g : Nat) (lb : Array Value) (xs : List (List UInt8)) (w : World) : Prop :=
  ∀ (l : Nat) (J : List (List UInt8) → World → Prop) (W : World), Below w.heap.size w W → AbidesFrom W.heap.size J → (∀ pre W1, J pre W1 → Below w.heap.size w W1) →
    (∀ pre x W1, J pre W1 → pre.length < xs.length → YieldAt F (n - 1) P l #[encStr x] W1 fun e W' => e = .returned (.bool true) ∧ J (pre ++ [x]) W' ∧ KeepsWalks W1 W') →
    J [] W →
    CallsIn F n P g (#[.func (.yield l) #[] #[]] ++ lb) W fun e W' => (∃ v, e = .returned v) ∧ J xs W'

theorem GivesB.later {F : Fence} {n : Nat} {P : Program} {g : Nat} {lb : Array Value} {xs : List (List UInt8)} {w w' : World} (h : GivesB F n P g lb xs w) (hb : Below w.heap.size w w') : GivesB F n P g lb xs w' :=
  fun l J W hW hJ hB hY h0 => h l J W (hb.trans (hW.mono hb.size)) hJ (fun pre W1 h1 => hb.trans ((hB pre W1 h1).mono hb.size)) hY h0

set_option maxRecDepth 100000 in
set_option maxHeartbeats 2000000 in
theorem appendSeq_b (n : Nat) (hn : 2 ≤ n) (g : Nat) (lb : Array Value) (eg : ∀ args w, (callFunc g args).run Tryz.prog w = .ok (.enter g args) w) (xs : List (List UInt8)) (hN : xs.length ≤ maxLen) (hNb : xs.length * 16 ≤ 140737488355328) (w : World)
    (hseq : GivesB Fence.wide (n - 1) Tryz.prog g lb xs w) :
    CallsIn Fence.wide n Tryz.prog 144 #[.slice none 0 0, .func (.func g) #[] lb] w fun e w' => ∃ v, e = .returned v ∧ w'.ownsRow w.heap.size 9 1 v xs.length (xs.map encStr) ∧ (v = .slice none 0 0 ↔ xs = []) ∧ Below w.heap.size w w' := by
  have L := Tryz.sorted52
  have h1 : 1 ≤ n := by omega
  have hne : (32 : TypeId) ≠ 9 := by decide
  refine callsIn_of_wp_marks Tryz.func144 rfl trivial ?_ rfl
  simp only [Tryz.ntmps144, List.size_toArray, List.length_cons, List.length_nil, Nat.reduceAdd, Nat.reduceSub, Array.replicate_succ, Array.replicate_zero, List.push_toArray, List.append_toArray, List.nil_append, List.cons_append]
  gi_wp2
  refine wpIn_rangeFunc ?_
  intro fn hfn
  obtain ⟨W0, hW0⟩ : ∃ W0, w.alloc (.cells #[.slice none 0 0] 32) = W0 := ⟨_, rfl⟩
  have hs0 : W0.heap.size = w.heap.size + 1 := by rw [← hW0]; simp
  have hv0 : W0.heap[w.heap.size]? = some (.cells #[.slice none 0 0] 32 (0, 0)) := by rw [← hW0]; exact World.alloc_heap_new w _
  have hb0 : Below w.heap.size w W0 := by rw [← hW0]; exact (Below.refl _ w).alloc (Nat.le_refl _) _
  rw [hW0]
  obtain ⟨W1, hW1⟩ : ∃ W1, (W0.alloc (.deferred (some []))).alloc (.loop (AnyZ.apRec Tryz.sorted52_ren fn (.func (.func g) #[] lb) w.heap.size W0.heap.size .ready none)) = W1 := ⟨_, rfl⟩
  have hold : ∀ k, k < W0.heap.size → W1.heap[k]? = W0.heap[k]? := fun k hk => by
    rw [← hW1]; exact (Below.heap_alloc _ _ k (by simp; omega)).trans (Below.heap_alloc _ _ k hk)
  have hb1 : Below w.heap.size w W1 := by rw [← hW1]; exact (hb0.alloc hb0.size _).alloc (by have := hb0.size; simp; omega) _
  have hs1 : W1.heap.size = W0.heap.size + 2 := by rw [← hW1]; simp
  have hM : AnyZ.ApAt Tryz.sorted52_ren w fn (.func (.func g) #[] lb) w.heap.size (W0.heap.size + 1) W0.heap.size [] W1 :=
    ⟨⟨_, (hold w.heap.size (by omega)).trans hv0, ⟨rfl, .inl ⟨rfl, rfl⟩⟩, by simp⟩,
     by rw [← hW1]; have := World.alloc_heap_new (W0.alloc (.deferred (some []))) (.loop (AnyZ.apRec Tryz.sorted52_ren fn (.func (.func g) #[] lb) w.heap.size W0.heap.size .ready none)); rwa [World.size_alloc] at this,
     by rw [← hW1]; exact (Below.heap_alloc _ _ _ (by simp)).trans (World.alloc_heap_new W0 _), hb1⟩
  refine ⟨W0.heap.size + 1, [{ target := .collected W0.heap.size, args := #[] }], W1, { target := .fn (.func g) lb, args := #[.func (.yield (W0.heap.size + 1)) #[] #[]] }, W1, g,
    #[.func (.yield (W0.heap.size + 1)) #[] #[]] ++ lb, W1, ?_, ?_, ?_, ?_, fun _ => h1, ?_⟩
  · rw [← hW1]; exact run_enterLoop_outer _ _ _ _ _
  · simp [resolve, go_sem]
  · intro f' hf'; trivial
  · simp [invoke, go_sem, eg]
  · refine (hseq (W0.heap.size + 1) (AnyZ.ApAt Tryz.sorted52_ren w fn (.func (.func g) #[] lb) w.heap.size (W0.heap.size + 1) W0.heap.size) W1 hb1 (AnyZ.ap_abides Tryz.sorted52_ren _ _ _ _ _ _ _ hb1.size) (fun pre W hJ => hJ.below)
      (fun pre x W hJ hl => AnyZ.apYield { L with } Fence.wide (n - 1 - 1) w fn hfn _ w.heap.size (W0.heap.size + 1) W0.heap.size (by omega) (by omega) (by omega) (Nat.le_refl _) (by omega) xs.length hN hNb pre x W hJ hl) hM).mono ?_
    rintro e W2 ⟨⟨v0, rfl⟩, h2⟩
    obtain ⟨v, hv, hrow, hnil⟩ := h2.box
    have hend := run_endLoop (P := Tryz.prog) h2.L (by simp [AnyZ.apRec])
    obtain ⟨W3, hW3⟩ : ∃ W3, W2.putObj (W0.heap.size + 1) (.loop { AnyZ.apRec Tryz.sorted52_ren fn (.func (.func g) #[] lb) w.heap.size W0.heap.size .ready none with state := .exhausted }) = W3 := ⟨_, rfl⟩
    rw [hW3] at hend
    have hg3 : W2.grownBy W3 (some (W0.heap.size + 1)) := by rw [← hW3]; exact grownBy_putObj_a _ _ _
    have hv3 : W3.heap[w.heap.size]? = some (.cells #[v] 32 (0, 0)) := by rw [← hW3]; exact (World.putObj_heap_other (by omega)).trans hv
    have hK3 : W3.heap[W0.heap.size]? = some (.deferred (some [])) := by rw [← hW3]; exact (World.putObj_heap_other (by omega)).trans h2.K
    have hrow3 := hrow.kept hg3 (ownsRow_ne_a hrow h2.L (fun cur e => by cases e))
    have hb3 : Below w.heap.size w W3 := h2.below.grown hg3 h2.below.size (fun k e => by cases e; omega)
    obtain ⟨hc3, hf3⟩ := cell_of_box_a hv3
    clear hW3
    refine ⟨none, W3, hend, ?_⟩
    gi_wp2
    rw [← hs0]
    refine ⟨by simp, .inl ⟨_, _, rfl, run_takeDeferred hK3, ?_⟩⟩
    exact ⟨_, results_tmp rfl _ _ _, v, rfl, hrow3.kept (grownBy_putObj_a _ _ _) (ownsRow_ne_a hrow3 hK3 (fun cur e => by cases e)), hnil, hb3.grown (grownBy_putObj_a _ _ _) hb3.size (fun k e => by cases e; omega)⟩

set_option maxHeartbeats 1000000 in
theorem collect_b (n : Nat) (hn : 3 ≤ n) (g : Nat) (lb : Array Value) (eg : ∀ args w, (callFunc g args).run Tryz.prog w = .ok (.enter g args) w) (xs : List (List UInt8)) (hN : xs.length ≤ maxLen) (hNb : xs.length * 16 ≤ 140737488355328) (w : World)
    (hseq : GivesB Fence.wide (n - 1 - 1) Tryz.prog g lb xs w) :
    CallsIn Fence.wide n Tryz.prog 106 #[.func (.func g) #[] lb] w fun e w' => ∃ v, e = .returned v ∧ w'.ownsRow w.heap.size 9 1 v xs.length (xs.map encStr) ∧ (v = .slice none 0 0 ↔ xs = []) ∧ Below w.heap.size w w' := by
  have h1 : 1 ≤ n := by omega
  have hfA : Fence.wide.fn 144 := trivial
  refine callsIn_of_wp Tryz.func106 rfl trivial ?_ rfl
  simp only [Tryz.ntmps106, List.size_toArray, List.length_cons, List.length_nil, Nat.reduceAdd, Nat.reduceSub, Array.replicate_succ, Array.replicate_zero, List.push_toArray, List.append_toArray, List.nil_append, List.cons_append]
  gi_wp2_with (gi_at_call 144; refine (appendSeq_b (n - 1) (by omega) g lb eg xs hN hNb _ hseq).mono ?_; rintro e w' ⟨v, rfl, hrow, hnil, hb⟩)
  go_ret
  exact ⟨v, rfl, hrow, hnil, hb⟩

set_option maxRecDepth 100000 in
set_option maxHeartbeats 2000000 in
theorem sorted_b (n : Nat) (hn : 4 ≤ n) (g : Nat) (lb : Array Value) (eg : ∀ args w, (callFunc g args).run Tryz.prog w = .ok (.enter g args) w) (xs : List (List UInt8)) (hN : xs.length ≤ maxLen) (hNb : xs.length * 16 ≤ 140737488355328) (w : World)
    (hseq : GivesB Fence.wide (n - 1 - 1 - 1) Tryz.prog g lb xs w) :
    CallsIn Fence.wide n Tryz.prog 52 #[.func (.func g) #[] lb] w fun e w' => ∃ v, e = .returned v ∧ w'.ownsRow w.heap.size 9 1 v xs.length ((xs.mergeSort (fun x y => decide (x ≤ y))).map encStr) ∧ (v = .slice none 0 0 ↔ xs = []) ∧ Below w.heap.size w w' := by
  have h1 : 1 ≤ n := by omega
  have hfA : Fence.wide.fn 106 := trivial
  have hfS : Fence.wide.fn 107 := trivial
  have hsort := Tryz.sorts52 (n - 1)
  have hsort1 := hsort.1
  have hsort2 := hsort.2
  refine callsIn_of_wp Tryz.func52 rfl trivial ?_ rfl
  simp only [Tryz.ntmps52, List.size_toArray, List.length_cons, List.length_nil, Nat.reduceAdd, Nat.reduceSub, Array.replicate_succ, Array.replicate_zero, List.push_toArray, List.append_toArray, List.nil_append, List.cons_append]
  gi_wp2_with (gi_at_call 106; refine (collect_b (n - 1) (by omega) g lb eg xs hN hNb _ hseq).mono ?_; rintro e W ⟨v, rfl, hrow, hnil, hb⟩)
  rcases hrow.2 with ⟨rfl, hz⟩ | ⟨gb, cap, cur, rfl, hbase, hgb, r1, r2, r3, r4⟩
  · have hss : xs = [] := List.eq_nil_of_length_eq_zero hz
    subst hss
    gi_wp2_with (gi_at_call 107; refine (hsort2 none 0 W).mono ?_; rintro e w' ⟨rfl, rfl⟩)
    go_ret
    exact ⟨.slice none 0 0, rfl, by simpa using hrow, by simp, hb⟩
  · have hH : Holds encStr W gb 0 xs.toArray := holds_of_block hgb (by simpa using r4)
    have hgl : gb < W.heap.size := (Array.getElem?_eq_some_iff.1 hgb).1
    have hsz : xs.length < 4611686018427387904 := by omega
    have cS := hsort1 gb 0 cap xs W hH hgl hsz
    gi_wp2_with (gi_at_call 107; refine cS.mono ?_; rintro e w' ⟨rfl, nn, os, rfl⟩)
    go_ret
    exact ⟨_, rfl, ownsRow_sorted (by simp) hbase hgb r1 r2 r3, hnil, hb.grown (grownBy_sorted _) hb.size (fun j hj => by cases hj; exact hbase)⟩

set_option maxRecDepth 100000 in
set_option maxHeartbeats 2000000 in
/-- The iterator over a slice's values. -/
theorem values_gives (n : Nat) (hn : 1 ≤ n) (gs : List ByteArray) (v : Value) (w : World) (hg : Strs w v gs) (Bm : Nat) (hBm : w.heap[Bm]? = some (.cells #[v] 32 (0, 0))) :
    GivesB Fence.wide n Tryz.prog 154 #[.pointer (some ⟨Bm, 0, none⟩)] (gs.map fun s => s.data.toList) w := by
  intro l J W hW hJ hB hY h0
  obtain ⟨A, cap, hv⟩ : ∃ A cap, v = .slice A gs.length cap := let ⟨⟨A, cap, h, _⟩, _⟩ := hg; ⟨A, cap, h⟩
  subst hv
  have hlen := hg.2
  have y0 : W.cell? ⟨Bm, 0, none⟩ = some (.slice A gs.length cap) := blk_cell (blk_below hBm hW (blk_lt hBm)) 0
  have HG := Lib.hid hg
  have HY := Lib.hid hY
  have HB := Lib.hid hB
  have H0 := Lib.hid h0
  clear hg hY hB h0 hJ hBm
  refine callsIn_of_wp Tryz.func154 rfl trivial ?_ rfl
  simp only [Tryz.ntmps154, List.size_toArray, List.length_cons, List.length_nil, Nat.reduceAdd, Nat.reduceSub, Array.replicate_succ, Array.replicate_zero, List.push_toArray, List.append_toArray, List.nil_append, List.cons_append]
  gi_wp2
  gi_loopw [7] (fun s7 wr => ∃ k : Nat, k ≤ gs.length ∧ s7 = .int .i64 k ∧ J ((gs.map fun s => s.data.toList).take k) wr) (fun s7 _ => gs.length - (intOf s7).toNat)
  case atStart => exact ⟨0, Nat.zero_le _, rfl, by simpa using H0.out⟩
  case round =>
    obtain ⟨k, hk, rfl, hJ⟩ := hrel
    by_cases hlt : k < gs.length
    · have hlt' : (k : Int) < (gs.length : Int) := by omega
      have hwB := HB.out _ _ hJ
      obtain ⟨b, off, rfl, y⟩ : ∃ b off, A = some ⟨b, off, none⟩ ∧ wr.cell? ⟨b, off + k, none⟩ = some (.string gs[k]) := by
        obtain ⟨⟨A', cap', hv, hf⟩, _⟩ := HG.out
        obtain ⟨b, off, hA, hlb, hc⟩ := hf (by omega)
        obtain ⟨rfl, rfl⟩ : A = A' ∧ cap = cap' := by simpa using hv
        refine ⟨b, off, hA, (hwB.cell hlb).trans ((hc k hlt).trans ?_)⟩
        rw [List.getD_eq_getElem?_getD, List.getElem?_eq_getElem hlt]; rfl
      obtain ⟨fn, tmps, assign, body, hy, hR⟩ := HY.out _ gs[k].data.toList wr hJ (by simp; omega)
      have hw : IntKind.i64.wrap ((k : Int) + 1) = (k : Int) + 1 := IntWalk.i64_in _ (by omega)
      have HR := Lib.hid hR
      have HK := Lib.hid hk
      clear hR hk hwB hJ HG
      have hes : encStr gs[k].data.toList = .string gs[k] := rfl
      rw [hes] at hy
      gi_wp2
      refine HR.out.mono ?_
      rintro e W3 ⟨rfl, hJ3, hk3⟩
      gi_wp2
      have HJ := Lib.hid hJ3
      clear hJ3
      go_roundw
      case rel => exact ⟨k + 1, by omega, by go_num, by
        have e1 : (gs.map fun s => s.data.toList).take (k + 1) = (gs.map fun s => s.data.toList).take k ++ [gs[k].data.toList] := by
          rw [List.take_succ_eq_append_getElem (by simpa using hlt)]; simp
        rw [e1]; exact HJ.out⟩
      case measure => simp [intOf]; omega
    · have e1 : k = gs.length := by omega
      subst e1
      have HJ := Lib.hid hJ
      clear hJ
      gi_wp2
      go_end0
      exact ⟨⟨_, rfl⟩, by have := HJ.out; rwa [List.take_of_length_le (by simp)] at this⟩

set_option maxHeartbeats 1000000 in
theorem values_call (A : Option Addr) (n c : Nat) (w : World) :
    Calls Tryz.prog 116 #[.slice A n c] w fun e w' => e = .returned (.func (.func 154) #[] #[.pointer (some ⟨w.heap.size, 0, none⟩)]) ∧ w' = w.alloc (.cells #[.slice A n c] 32) := by
  go_enter Tryz.func116, Tryz.ntmps116
  go_wp2
  go_ret
  exact ⟨rfl, rfl⟩

theorem sorted_call (gs : List ByteArray) (hl : gs.length ≤ 1000000) (v : Value) (w : World) (hg : Strs w v gs) :
    Calls Tryz.prog 52 #[.func (.func 154) #[] #[.pointer (some ⟨w.heap.size, 0, none⟩)]] (w.alloc (.cells #[v] 32)) fun e w' => ∃ A c, e = .returned (.slice A gs.length c) ∧
      w'.ownsRow w.heap.size 9 1 (.slice A gs.length c) gs.length (((gs.map fun s => s.data.toList).mergeSort (fun x y => decide (x ≤ y))).map encStr) ∧ Below w.heap.size w w' := by
  have h := sorted_b 5 (by omega) 154 #[.pointer (some ⟨w.heap.size, 0, none⟩)] (enters_of Tryz.func154 (by kernel_rfl) rfl) (gs.map fun s => s.data.toList) (by simp [maxLen]; omega) (by simp; omega) (w.alloc (.cells #[v] 32))
    (values_gives 2 (by omega) gs v _ (hg.below ((Below.refl _ _).alloc (Nat.le_refl _) _)) w.heap.size (blk_new _ _))
  refine (callsIn_wide.1 h).mono ?_
  rintro e w' ⟨v', rfl, hrow, _, hb⟩
  simp only [List.length_map] at hrow
  have hb' : Below w.heap.size w w' := ((Below.refl _ _).alloc (Nat.le_refl _) _).trans (hb.mono (by simp))
  rcases hrow.2 with ⟨rfl, h0⟩ | ⟨g, cap, cur, rfl, h1, rest⟩
  · exact ⟨none, 0, by rw [h0], by rw [h0] at hrow ⊢; exact ⟨hrow.1, .inl ⟨rfl, rfl⟩⟩, hb'⟩
  · exact ⟨_, cap, rfl, ⟨hrow.1, .inr ⟨g, cap, cur, rfl, by have := h1; simp at this; omega, rest⟩⟩, hb'⟩

theorem compact_le (zs : List (List UInt8)) : (Lib.compact zs).length ≤ zs.length := by
  unfold Lib.compact Lib.compactUpTo
  rw [List.length_map]
  exact Nat.le_trans (List.length_filter_le _ _) (by simp)

theorem seq_of_row {w : World} {base : Nat} {e : TypeId} {g n cap m : Nat} {xs ys : List Value} (h : w.ownsRow base e 1 (.slice (some ⟨g, 0, none⟩) n cap) n (xs ++ ys)) (hx : xs.length = m) : Seq w base e 1 (.slice (some ⟨g, 0, none⟩) m cap) m xs := by
  rcases h.2 with ⟨h0, _⟩ | ⟨g', cap', cur, hv, hb, hc, h1, h2, h3, h4⟩
  · cases h0
  · cases hv
    have hl := h.1
    rw [List.length_append] at hl
    refine ⟨by omega, .inr ⟨g, 0, cap, cur, rfl, hb, hc, by omega, h2, by rw [h3]; omega, ?_⟩⟩
    have h5 : (cur.toList.take (n * 1)).take m = (xs ++ ys).take m := by rw [h4]
    rw [List.take_take, show min m (n * 1) = m by omega, List.take_append_of_le_length (by omega)] at h5
    rw [List.drop_zero, Nat.mul_one, h5]
    exact List.take_of_length_le (by omega)

set_option maxRecDepth 100000 in
set_option maxHeartbeats 2000000 in
/-- Texts, rising, none twice, in new memory. -/
theorem sorted_any (w : World) (v : Value) (gs : List ByteArray) (hg : Strs w v gs) (hl : gs.length ≤ 1000000) :
    Calls Tryz.prog 64 #[v] w fun e w' => ∃ A c, e = .returned (.slice A (sortG gs).length c) ∧ Below w.heap.size w w' ∧ Seq w' w.heap.size 9 1 (.slice A (sortG gs).length c) (sortG gs).length (flatS (sortG gs)) := by
  obtain ⟨A, cap, hv⟩ : ∃ A cap, v = .slice A gs.length cap := let ⟨⟨A, cap, h, _⟩, _⟩ := hg; ⟨A, cap, h⟩
  subst hv
  have hsc := sorted_call gs hl _ w hg
  obtain ⟨zs, hzs⟩ : ∃ zs, (gs.map fun s => s.data.toList).mergeSort (fun x y => decide (x ≤ y)) = zs := ⟨_, rfl⟩
  have hzl : zs.length = gs.length := by rw [← hzs]; simp
  have hso2 : sortG gs = (Lib.compact zs).map lb := by rw [← hzs]; rfl
  have hfl : flatS ((Lib.compact zs).map lb) = (Lib.compact zs).map encStr := by unfold flatS; rw [List.map_map]; rfl
  rw [hzs] at hsc
  rw [hso2, hfl, List.length_map]
  have HC := Lib.hid hsc
  have HL := Lib.hid hl
  have HZ := Lib.hid hzl
  clear hg hl hsc hzs hso2 hfl hzl
  go_enter Tryz.func64, Tryz.ntmps64
  go_wp2_with fail
  refine (values_call _ _ _ _).mono ?_
  rintro e w1 ⟨rfl, rfl⟩
  go_wp2_with fail
  refine HC.out.mono ?_
  rintro e w2 ⟨A2, c2, rfl, hrow, hb2⟩
  have hzl := HZ.out
  rcases hrow.2 with ⟨hn, hz⟩ | ⟨gb, cp, cur, hv2, hbase, hgb, r1, r2, r3, r4⟩
  · obtain ⟨rfl, h0, rfl⟩ : A2 = none ∧ gs.length = 0 ∧ c2 = 0 := by simpa using hn
    have hz0 : zs = [] := List.eq_nil_of_length_eq_zero (by omega)
    subst hz0
    have HB := Lib.hid hb2
    have e0 : (Value.slice none gs.length 0) = .slice none 0 0 := by rw [h0]
    rw [e0]
    clear hrow hz hb2 HC HL hzl hn e0
    go_wp2_with fail
    refine (Tryz.slices_Compact_string_empty none 0 w2).mono ?_
    rintro e w3 ⟨rfl, rfl⟩
    go_wp2_with fail
    go_ret
    exact ⟨none, 0, rfl, HB.out, Seq.nil _ _ _ _⟩
  · obtain ⟨rfl, rfl⟩ : A2 = some ⟨gb, 0, none⟩ ∧ c2 = cp := by simpa using hv2
    have hH : Holds encStr w2 gb 0 zs.toArray := holds_of_block hgb (by rw [hzl]; simpa using r4)
    have C := Tryz.slices_Compact_string gb 0 c2 zs w2 hH (by have := HL.out; omega) (by omega)
    rw [hzl] at C
    clear hzl
    have HR := Lib.hid hrow
    have HC2 := Lib.hid C
    have HB := Lib.hid (And.intro hb2 (And.intro hbase (And.intro hgb (And.intro r1 (And.intro r2 r3)))))
    clear hrow C hb2 hbase hgb r1 r2 r3 r4 hH HC hv2
    go_wp2_with fail
    refine HC2.out.mono ?_
    rintro e w3 ⟨rfl, q, hw3⟩
    obtain ⟨hb2, hbase, hgb, r1, r2, r3⟩ := HB.out
    have hzl := HZ.out
    have hcl := compact_le zs
    have hrow3 := ownsRow_sorted (n := q) (os := #[]) (ss := zs) (ts := Lib.compact zs ++ List.replicate (gs.length - (Lib.compact zs).length) []) (by simp; omega) hbase hgb (by omega) r2 r3
    have hgr := grownBy_sorted (w := w2) (g := gb) (n := q) (os := #[]) (Lib.compact zs ++ List.replicate (gs.length - (Lib.compact zs).length) []).toArray
    rw [grow_empty, ← hw3] at hrow3 hgr
    rw [List.map_append] at hrow3
    have hseq := seq_of_row (m := (Lib.compact zs).length) hrow3 (by simp)
    have hb3 : Below w.heap.size w w3 := hb2.grown hgr hb2.size (fun j hj => by cases hj; exact hbase)
    have HF := Lib.hid (And.intro hb3 hseq)
    clear hrow3 hgr hseq hb3 hw3 hb2 hbase hgb r1 r2 r3 hcl HR HC2 HB hzl
    go_wp2_with fail
    go_ret
    exact ⟨_, _, rfl, HF.out.1, HF.out.2⟩

end Go.Proofs.YthbjcihdlhkboaaGreatDoor
