import Derived.Test.YtgaimcdkbknljaaAgree1
import Derived.Test.YtgaimcdkbknljaaSeq
import Derived.Test.YtgaimcdkbknljaaMem
import Derived.Test.YtgaimcdkbknljaaBit
import Derived.Deep.RegionHeld3
import Derived.Deep.LoopGhost
import Derived.Deep.DeepCutAuto
import Derived.IntWalk
namespace Go.Proofs.Ytgaimcdkbknljaa
open Go.RowKit
set_option linter.unusedSimpArgs false
set_option linter.unusedVariables false

theorem size_alloc (w : World) (o : Obj) : (w.alloc o).heap.size = w.heap.size + 1 := by simp
theorem below_undrew {W w' : World} (h : Below W.drew.heap.size W.drew w') : Below W.heap.size W w' := ⟨h.os, h.tape, h.output, h.size, h.block⟩

def flat (q : List (Int × Int)) : List Value := q.flatMap fun l => [.int .i64 l.1, .int .u64 l.2]

/-- The memory of SubsAgree: the two halves, the mails on their way, the two counters, the four acts. -/
structure AMem (B : Nat) (w0 w : World) (a b : Half) (v0 v1 : Value) (q0 q1 : List (Int × Int)) (n0 n1 : Int) : Prop where
  below : Below B w0 w
  hs : w.heap[B]? = some (.cells #[.int .i64 a.o, .int .u64 a.n, .int .i64 a.i, .int .u64 a.m, .int .i64 b.o, .int .u64 b.n, .int .i64 b.i, .int .u64 b.m] 26)
  ws : w.heap[B + 1]? = some (.cells #[v0, v1] 28)
  ns : w.heap[B + 1 + 1]? = some (.cells #[.int .u64 n0, .int .u64 n1] 29)
  ks : w.heap[B + 1 + 1 + 1]? = some (.cells #[.int .i64 11, .int .i64 13, .int .i64 12, .int .i64 14] 3)
  q0 : Seq w (B + 1 + 1 + 1 + 1) 37 2 v0 q0.length (flat q0)
  q1 : Seq w (B + 1 + 1 + 1 + 1) 37 2 v1 q1.length (flat q1)
  ap : v0.ownBlock = none ∨ v0.ownBlock ≠ v1.ownBlock

section
variable {B : Nat} {w0 w w' : World} {a b : Half} {v0 v1 : Value} {q0 q1 : List (Int × Int)} {n0 n1 : Int}

theorem AMem.alloc (h : AMem B w0 w a b v0 v1 q0 q1 n0 n1) (o : Obj) : AMem B w0 (w.alloc o) a b v0 v1 q0 q1 n0 n1 :=
  ⟨h.below.alloc (by have := blk_lt h.hs; omega) o, blk_alloc h.hs o, blk_alloc h.ws o, blk_alloc h.ns o, blk_alloc h.ks o, h.q0.alloc o, h.q1.alloc o, h.ap⟩
theorem AMem.drew (h : AMem B w0 w a b v0 v1 q0 q1 n0 n1) : AMem B w0 w.drew a b v0 v1 q0 q1 n0 n1 :=
  ⟨h.below.drew, h.hs, h.ws, h.ns, h.ks, h.q0.drew, h.q1.drew, h.ap⟩
theorem AMem.call (h : AMem B w0 w a b v0 v1 q0 q1 n0 n1) (hb : Below w.heap.size w w') : AMem B w0 w' a b v0 v1 q0 q1 n0 n1 :=
  ⟨h.below.trans (hb.mono (by have := blk_lt h.hs; omega)), blk_below h.hs hb (blk_lt h.hs), blk_below h.ws hb (blk_lt h.ws), blk_below h.ns hb (blk_lt h.ns), blk_below h.ks hb (blk_lt h.ks),
    h.q0.below hb (fun k hk => (h.q0.lt k hk).2), h.q1.below hb (fun k hk => (h.q1.lt k hk).2), h.ap⟩
theorem AMem.far (h : AMem B w0 w a b v0 v1 q0 q1 n0 n1) {p : Addr} (hp : p.block < B + 1 + 1 + 1 + 1) (u : Value) :
    Seq (w.setCell p u) (B + 1 + 1 + 1 + 1) 37 2 v0 q0.length (flat q0) ∧ Seq (w.setCell p u) (B + 1 + 1 + 1 + 1) 37 2 v1 q1.length (flat q1) :=
  ⟨h.q0.setCell u (fun e => by have := (h.q0.lt _ e).1; omega), h.q1.setCell u (fun e => by have := (h.q1.lt _ e).1; omega)⟩
theorem AMem.tick0 (h : AMem B w0 w a b v0 v1 q0 q1 n0 n1) (n : Int) : AMem B w0 (w.setCell ⟨B + 1 + 1, 0, none⟩ (.int .u64 n)) a b v0 v1 q0 q1 n n1 :=
  ⟨h.below.setCell (by simp; omega) _, blk_set_other h.hs _ (by simp; omega), blk_set_other h.ws _ (by simp), blk_set_same h.ns 0 _, blk_set_other h.ks _ (by simp), (h.far (by simp) _).1, (h.far (by simp) _).2, h.ap⟩
theorem AMem.tick1 (h : AMem B w0 w a b v0 v1 q0 q1 n0 n1) (n : Int) : AMem B w0 (w.setCell ⟨B + 1 + 1, 1, none⟩ (.int .u64 n)) a b v0 v1 q0 q1 n0 n :=
  ⟨h.below.setCell (by simp; omega) _, blk_set_other h.hs _ (by simp; omega), blk_set_other h.ws _ (by simp), blk_set_same h.ns 1 _, blk_set_other h.ks _ (by simp), (h.far (by simp) _).1, (h.far (by simp) _).2, h.ap⟩
/-- A store into the block of the halves. -/
theorem AMem.hstore (h : AMem B w0 w a b v0 v1 q0 q1 n0 n1) (j : Nat) (u : Value) {a' b' : Half}
    (e : (#[.int .i64 a.o, .int .u64 a.n, .int .i64 a.i, .int .u64 a.m, .int .i64 b.o, .int .u64 b.n, .int .i64 b.i, .int .u64 b.m] : Array Value).setIfInBounds j u = #[.int .i64 a'.o, .int .u64 a'.n, .int .i64 a'.i, .int .u64 a'.m, .int .i64 b'.o, .int .u64 b'.n, .int .i64 b'.i, .int .u64 b'.m]) :
    AMem B w0 (w.setCell ⟨B, j, none⟩ u) a' b' v0 v1 q0 q1 n0 n1 :=
  ⟨h.below.setCell (by simp) _, by rw [← e]; exact blk_set_same h.hs j _, blk_set_other h.ws _ (by simp), blk_set_other h.ns _ (by simp; omega), blk_set_other h.ks _ (by simp; omega), (h.far (by simp; omega) _).1, (h.far (by simp; omega) _).2, h.ap⟩
theorem AMem.half0 (h : AMem B w0 w a b v0 v1 q0 q1 n0 n1) (c : Half) :
    AMem B w0 ((((w.setCell ⟨B, 0, none⟩ (.int .i64 c.o)).setCell ⟨B, 1, none⟩ (.int .u64 c.n)).setCell ⟨B, 2, none⟩ (.int .i64 c.i)).setCell ⟨B, 3, none⟩ (.int .u64 c.m)) c b v0 v1 q0 q1 n0 n1 :=
  (((h.hstore 0 _ (a' := ⟨c.o, a.n, a.i, a.m⟩) (b' := b) rfl).hstore 1 _ (a' := ⟨c.o, c.n, a.i, a.m⟩) (b' := b) rfl).hstore 2 _ (a' := ⟨c.o, c.n, c.i, a.m⟩) (b' := b) rfl).hstore 3 _ rfl
theorem AMem.half1 (h : AMem B w0 w a b v0 v1 q0 q1 n0 n1) (c : Half) :
    AMem B w0 ((((w.setCell ⟨B, 4, none⟩ (.int .i64 c.o)).setCell ⟨B, 5, none⟩ (.int .u64 c.n)).setCell ⟨B, 6, none⟩ (.int .i64 c.i)).setCell ⟨B, 7, none⟩ (.int .u64 c.m)) a c v0 v1 q0 q1 n0 n1 :=
  (((h.hstore 4 _ (a' := a) (b' := ⟨c.o, b.n, b.i, b.m⟩) rfl).hstore 5 _ (a' := a) (b' := ⟨c.o, c.n, b.i, b.m⟩) rfl).hstore 6 _ (a' := a) (b' := ⟨c.o, c.n, c.i, b.m⟩) rfl).hstore 7 _ rfl

theorem flat_snoc (q : List (Int × Int)) (m n : Int) : flat (q ++ [(m, n)]) = flat q ++ [.int .i64 m, .int .u64 n] := by simp [flat]

/-- A mail is laid behind the others on the way to end 1, and the slice is stored. -/
theorem AMem.push1 (h : AMem B w0 w a b v0 v1 q0 q1 n0 n1) {v : Value} {m n : Int} (hg : w.grownBy w' v1.ownBlock) (hs : Seq w' (B + 1 + 1 + 1 + 1) 37 2 v (q1.length + 1) (flat q1 ++ [.int .i64 m, .int .u64 n]))
    (hat : v.ownBlock = v1.ownBlock ∨ v.ownBlock = some w.heap.size) : AMem B w0 (w'.setCell ⟨B + 1, 1, none⟩ v) a b v0 v q0 (q1 ++ [(m, n)]) n0 n1 := by
  have zs := blk_lt h.ks
  have old : ∀ k, k < B + 1 + 1 + 1 + 1 → some k ≠ v1.ownBlock := fun k hk e => by have := (h.q1.lt k e.symm).1; omega
  have hq0 : Seq w' (B + 1 + 1 + 1 + 1) 37 2 v0 q0.length (flat q0) := h.q0.grown hg h.ap
  refine ⟨?_, ?_, ?_, ?_, ?_, ?_, ?_, ?_⟩
  · exact (h.below.grown hg (by omega) (fun k e => by have := (h.q1.lt k e).1; omega)).setCell (by simp) _
  · exact blk_set_other (blk_grown h.hs hg (old _ (by omega))) _ (by simp)
  · exact blk_set_same (blk_grown h.ws hg (old _ (by omega))) 1 _
  · exact blk_set_other (blk_grown h.ns hg (old _ (by omega))) _ (by simp)
  · exact blk_set_other (blk_grown h.ks hg (old _ (by omega))) _ (by simp; omega)
  · exact hq0.setCell _ (fun e => by have := (h.q0.lt _ e).1; simp at this; omega)
  · rw [flat_snoc, List.length_append]
    exact hs.setCell _ (fun e => by have := (hs.lt _ e).1; simp at this; omega)
  · rcases h.ap with e | e
    · exact .inl e
    · rcases hat with ht | ht
      · exact .inr (by rw [ht]; exact e)
      · right
        rw [ht]
        intro e2
        have := (h.q0.lt _ e2).2
        omega
theorem AMem.push0 (h : AMem B w0 w a b v0 v1 q0 q1 n0 n1) {v : Value} {m n : Int} (hg : w.grownBy w' v0.ownBlock) (hs : Seq w' (B + 1 + 1 + 1 + 1) 37 2 v (q0.length + 1) (flat q0 ++ [.int .i64 m, .int .u64 n]))
    (hat : v.ownBlock = v0.ownBlock ∨ v.ownBlock = some w.heap.size) : AMem B w0 (w'.setCell ⟨B + 1, 0, none⟩ v) a b v v1 (q0 ++ [(m, n)]) q1 n0 n1 := by
  have zs := blk_lt h.ks
  have old : ∀ k, k < B + 1 + 1 + 1 + 1 → some k ≠ v0.ownBlock := fun k hk e => by have := (h.q0.lt k e.symm).1; omega
  have hap : v1.ownBlock = none ∨ v1.ownBlock ≠ v0.ownBlock := by
    rcases h.ap with e | e
    · cases hv : v1.ownBlock with
      | none => exact .inl rfl
      | some k => right; rw [e]; simp
    · exact .inr (Ne.symm e)
  have hq1 : Seq w' (B + 1 + 1 + 1 + 1) 37 2 v1 q1.length (flat q1) := h.q1.grown hg hap
  refine ⟨?_, ?_, ?_, ?_, ?_, ?_, ?_, ?_⟩
  · exact (h.below.grown hg (by omega) (fun k e => by have := (h.q0.lt k e).1; omega)).setCell (by simp) _
  · exact blk_set_other (blk_grown h.hs hg (old _ (by omega))) _ (by simp)
  · exact blk_set_same (blk_grown h.ws hg (old _ (by omega))) 0 _
  · exact blk_set_other (blk_grown h.ns hg (old _ (by omega))) _ (by simp)
  · exact blk_set_other (blk_grown h.ks hg (old _ (by omega))) _ (by simp; omega)
  · rw [flat_snoc, List.length_append]
    exact hs.setCell _ (fun e => by have := (hs.lt _ e).1; simp at this; omega)
  · exact hq1.setCell _ (fun e => by have := (h.q1.lt _ e).1; simp at this; omega)
  · rcases hat with ht | ht
    · rw [ht]; exact h.ap
    · right
      rw [ht]
      intro e2
      have := (h.q1.lt _ e2.symm).2
      omega
end

/-- The steps as they lie in memory. -/
structure Steps (w : World) (A : Option Addr) (L : Nat) (E D : Nat → Int) : Prop where
  at_ : 0 < L → ∃ ab ao, A = some ⟨ab, ao, none⟩ ∧ ab < w.heap.size ∧ ∀ i, i < L → w.cell? ⟨ab, ao + i * 2, none⟩ = some (.int .i64 (E i)) ∧ w.cell? ⟨ab, ao + i * 2 + 1, none⟩ = some (.int .i64 (D i))

theorem Try.info37 : (Try.prog.info? 37).map (fun i => (i.zero, i.size, i.bytes)) = some (some (.agg #[.int .i64 0, .int .u64 0]), 2, 16) := by kernel_rfl

def Rel (w : World) (L : Nat) (g : Nat) (s : Value) (wr : World) : Prop :=
  ∃ (k : Nat) (a b : Half) (v0 v1 : Value) (q0 q1 : List (Int × Int)) (n0 n1 : Int), s = .int .i64 k ∧ AMem w.heap.size w wr a b v0 v1 q0 q1 n0 n1 ∧ Inv a b q0 q1 n0 n1 ∧
    g = 4 * (min L 300 - k) + 2 * (q0.length + q1.length) + (if (if k % 2 = 0 then q0 else q1) = [] then 1 else 0) ∧ k + g ≤ 1201 ∧ n0 ≤ k ∧ n1 ≤ k

theorem cut_one (gq oq n c o2 : Nat) (h : o2 = if 1 = c then oq else oq + 1 * 2) (w : World) :
    (Instr.slice 27 (.slice (some ⟨gq, oq, none⟩) (n + 1) c) (some (.int .i64 1)) none none).run Try.prog w = .ok (.slice (some ⟨gq, o2, none⟩) n (c - 1)) w := by
  have hs : ∀ w, (sizeOf (Try.prog.elem 27)).run Try.prog w = .ok 2 w := fun _ => by kernel_rfl
  rw [run_slice_l w 27 _ _ _ (by kernel_rfl) .i64 1 (by decide) (by omega), hs]
  subst h
  by_cases hc : 1 = c
  · subst hc
    simp [Result.andThen, sliced]
  · have hc' : ¬ c = 1 := fun e => hc e.symm
    simp [Result.andThen, sliced, hc, hc', Addr.add_lit]

section
variable {B : Nat} {w0 w : World} {a b : Half} {v0 v1 : Value} {q0 q1 : List (Int × Int)} {n0 n1 : Int} {g off c o2 : Nat} {l : Int × Int} {q : List (Int × Int)}
theorem pop_seq (h : Seq w (B + 1 + 1 + 1 + 1) 37 2 (.slice (some ⟨g, off, none⟩) (q.length + 1) c) (l :: q).length (flat (l :: q))) (ho : o2 = if 1 = c then off else off + 1 * 2) :
    Seq w (B + 1 + 1 + 1 + 1) 37 2 (.slice (some ⟨g, o2, none⟩) q.length (c - 1)) q.length (flat q) := by
  have h2 := Seq.drop (n := q.length + 1) (k := 1) h (by omega)
  rw [← ho] at h2
  exact h2
/-- The first mail on the way to end 0 is taken away. -/
theorem AMem.pop0 (h : AMem B w0 w a b (.slice (some ⟨g, off, none⟩) (q.length + 1) c) v1 (l :: q) q1 n0 n1) (ho : o2 = if 1 = c then off else off + 1 * 2) :
    AMem B w0 (w.setCell ⟨B + 1, 0, none⟩ (.slice (some ⟨g, o2, none⟩) q.length (c - 1))) a b (.slice (some ⟨g, o2, none⟩) q.length (c - 1)) v1 q q1 n0 n1 :=
  ⟨h.below.setCell (by simp) _, blk_set_other h.hs _ (by simp), blk_set_same h.ws 0 _, blk_set_other h.ns _ (by simp), blk_set_other h.ks _ (by simp; omega),
    (pop_seq h.q0 ho).setCell _ (fun e => by have := (h.q0.lt g rfl).1; simp [Value.ownBlock] at e; omega), (h.far (by simp) _).2, by simpa [Value.ownBlock] using h.ap⟩
theorem AMem.pop1 (h : AMem B w0 w a b v0 (.slice (some ⟨g, off, none⟩) (q.length + 1) c) q0 (l :: q) n0 n1) (ho : o2 = if 1 = c then off else off + 1 * 2) :
    AMem B w0 (w.setCell ⟨B + 1, 1, none⟩ (.slice (some ⟨g, o2, none⟩) q.length (c - 1))) a b v0 (.slice (some ⟨g, o2, none⟩) q.length (c - 1)) q0 q n0 n1 :=
  ⟨h.below.setCell (by simp) _, blk_set_other h.hs _ (by simp), blk_set_same h.ws 1 _, blk_set_other h.ns _ (by simp), blk_set_other h.ks _ (by simp; omega),
    (h.far (by simp) _).1, (pop_seq h.q1 ho).setCell _ (fun e => by have := (h.q1.lt g rfl).1; simp [Value.ownBlock] at e; omega), by simpa [Value.ownBlock] using h.ap⟩
end

set_option maxRecDepth 100000 in
set_option maxHeartbeats 16000000 in
theorem agree_any (A : Option Addr) (L cap : Nat) (E D : Nat → Int) (w : World) (hst : Steps w A L E D) (hL : L ≤ 9223372036854775807) :
    Calls Try.prog 3 #[.slice A L cap] w fun e w' => e = .returned (.bool true) ∧ Below w.heap.size w w' := by
  have HST := Lib.hid hst
  clear hst
  go_enter Try.func3, Try.ntmps3
  go_wp2_with fail
  go_loopg [7] (4 * min L 300 + 1) (fun g s wr => Rel w L g s wr)
  case atStart =>
    refine ⟨0, ⟨0, 0, 0, 0⟩, ⟨0, 0, 0, 0⟩, .slice none 0 0, .slice none 0 0, [], [], 0, 0, rfl, ⟨?_, ?_, ?_, ?_, ?_, Seq.nil _ _ _ _, Seq.nil _ _ _ _, .inl rfl⟩, Inv.start, by simp, by simp; omega, by simp, by simp⟩
    · repeat (first | exact Below.refl _ _ | refine Below.alloc ?_ (by simp; try omega) _)
    · exact blk_alloc (blk_alloc (blk_alloc (blk_new' _ (by simp)) _) _) _
    · exact blk_alloc (blk_alloc (blk_new' _ (by simp)) _) _
    · exact blk_alloc (blk_new' _ (by simp)) _
    · exact blk_new' _ (by simp)
  case round =>
    obtain ⟨k, a, b, v0, v1, q0, q1, n0, n1, rfl, hm, hi, hg, hkg, hn0, hn1⟩ := hrel
    obtain ⟨A0, c0, rfl⟩ := hm.q0.shape
    obtain ⟨A1, c1, rfl⟩ := hm.q1.shape
    have hk1 : k ≤ 1201 := by omega
    have hpos0 := hi.da.pos
    have hpos1 := hi.db.pos
    have hn0' : n0 ≤ 1201 := by omega
    have hn1' : n1 ≤ 1201 := by omega
    have hki : (0 : Int) ≤ (k : Int) := by omega
    have z0 := blk_lt hm.hs
    have z1 := blk_lt hm.ws
    have z2 := blk_lt hm.ns
    have z3 := blk_lt hm.ks
    have y0 : wr.cell? ⟨w.heap.size + 1, 0, none⟩ = some (.slice A0 q0.length c0) := blk_cell hm.ws 0
    have y1 : wr.cell? ⟨w.heap.size + 1, 1, none⟩ = some (.slice A1 q1.length c1) := blk_cell hm.ws 1
    have hl0 : q0.length ≤ 1201 := by omega
    have hl1 : q1.length ≤ 1201 := by omega
    have HM := Lib.hid hm
    have HG := Lib.hid (And.intro hg (And.intro hn0 hn1))
    have HI := Lib.hid hi
    clear hm hi hg hn0 hn1
    obtain ⟨go, hgo⟩ : ∃ go : Bool, go = (decide (k < L ∧ k < 300) || decide (0 < q0.length + q1.length)) := ⟨_, rfl⟩
    have HGO := Lib.hid hgo
    clear hgo
    go_upto_region 6 with fail
    go_cut [36] (fun s36 wx => s36 = .bool go ∧ wr = wx)
    case first =>
      by_cases hkL : k < L
      · have t1 : decide (k < L) = true := by simpa using hkL
        by_cases hk3 : k < 300
        · have t2 : decide ((k : Int) < 300) = true := by simp; omega
          have e : go = true := by rw [HGO.out]; simp [hkL, hk3]
          subst e
          go_wp2_with fail
          go_meet
          exact ⟨rfl, rfl⟩
        · have t2 : decide ((k : Int) < 300) = false := by simp; omega
          have e : go = decide (0 < q0.length + q1.length) := by rw [HGO.out]; simp [hkL, hk3]
          subst e
          go_wp2_with fail
          all_goals (go_meet; exact ⟨by simp; omega, rfl⟩)
      · have t1 : decide (k < L) = false := by simpa using hkL
        have e : go = decide (0 < q0.length + q1.length) := by rw [HGO.out]; simp [hkL]
        subst e
        go_wp2_with fail
        all_goals (go_meet; exact ⟨by simp; omega, rfl⟩)
    case rest =>
      obtain ⟨rfl, rfl⟩ := hcut
      cases go with
      | true =>
        obtain ⟨kb, hkb⟩ : ∃ kb, bits .and .i64 (k : Int) 1 = kb := ⟨_, rfl⟩
        obtain ⟨ek, dk, hed1, hed2⟩ : ∃ ek dk : Int, (k < L ∧ k < 300 → ek = E k ∧ dk = D k) ∧ (¬ (k < L ∧ k < 300) → ek = kb ∧ dk = 0) := by
          by_cases h : k < L ∧ k < 300
          · exact ⟨E k, D k, fun _ => ⟨rfl, rfl⟩, fun h' => absurd h h'⟩
          · exact ⟨kb, 0, fun h' => absurd h' h, fun _ => ⟨rfl, rfl⟩⟩
        have HE1 := Lib.hid hed1
        have HE2 := Lib.hid hed2
        clear hed1 hed2
        obtain ⟨act, hac⟩ : ∃ act : Bool, act = decide (k < L ∧ k < 300) := ⟨_, rfl⟩
        have HAC := Lib.hid hac
        clear hac
        go_upto_region 9 with fail
        go_cut [49] (fun s49 wx => s49 = .bool act ∧ wr.alloc (.cells #[.int .i64 kb, .int .i64 0] 32) = wx)
        case first =>
          by_cases hkL : k < L
          · have t1 : decide (k < L) = true := by simpa using hkL
            by_cases hk3 : k < 300
            · have t2 : decide ((k : Int) < 300) = true := by simp; omega
              have e : act = true := by rw [HAC.out]; simp [hkL, hk3]
              subst e
              go_wp2_with fail
              go_meet
              exact ⟨rfl, rfl⟩
            · have t2 : decide ((k : Int) < 300) = false := by simp; omega
              have e : act = false := by rw [HAC.out]; simp [hkL, hk3]
              subst e
              go_wp2_with fail
              go_meet
              exact ⟨rfl, rfl⟩
          · have t1 : decide (k < L) = false := by simpa using hkL
            have e : act = false := by rw [HAC.out]; simp [hkL]
            subst e
            go_wp2_with fail
            go_meet
            exact ⟨rfl, rfl⟩
        case rest =>
        obtain ⟨rfl, rfl⟩ := hcut
        go_upto_if 49 with fail
        go_cut [53] (fun s53 wx => wr.alloc (.cells #[.int .i64 ek, .int .i64 dk] 32) = wx)
        case first =>
          cases act with
          | true =>
            obtain ⟨hkL, hk3⟩ : k < L ∧ k < 300 := by simpa using HAC.out.symm
            obtain ⟨ab, ao, rfl, hab, hsteps⟩ := HST.out.at_ (by omega)
            have hb := HM.out.below
            have s0 : wr.cell? ⟨ab, ao + k * 2, none⟩ = some (.int .i64 (E k)) := (hb.cell hab).trans (hsteps k hkL).1
            have s1 : wr.cell? ⟨ab, ao + k * 2 + 1, none⟩ = some (.int .i64 (D k)) := (hb.cell hab).trans (hsteps k hkL).2
            have zab : ab < wr.heap.size := by have := hb.size; omega
            clear hsteps hb
            have hkL' : (k : Int) < (L : Int) := by omega
            obtain ⟨e1, e2⟩ := HE1.out ⟨hkL, hk3⟩
            subst e1
            subst e2
            go_wp2_with fail
            go_meet
            rfl
          | false =>
            obtain ⟨e1, e2⟩ := HE2.out (by simpa using HAC.out.symm)
            subst e1
            subst e2
            go_wp2_with fail
            go_meet
            rfl
        case rest =>
        subst hcut
        have HKB := Lib.hid hkb
        clear hkb
        have hem : ek % 2 = 0 ∨ ek % 2 = 1 := by omega
        have HNO := Lib.hid (show ¬ (k < L ∧ k < 300) → (k % 2 : Int) = ek % 2 ∧ 0 < q0.length + q1.length from fun h => by
          obtain ⟨e1, _⟩ := HE2.out h
          have e2 := HKB.out
          rw [and_one_i64] at e2
          have e3 := HGO.out
          simp only [h, decide_false, Bool.false_or] at e3
          exact ⟨by omega, by simpa using e3.symm⟩)
        have HAD := Lib.hid (show 1 ≤ dk → k < L ∧ k < 300 from fun h => Classical.byContradiction fun h' => by have := (HE2.out h').2; omega)
        clear HE1 HE2 HKB HGO
        clear y0 y1
        rcases hem with he | he
        · have hE : bits .and .i64 ek 1 = 0 := by rw [and_one_i64]; exact he
          have HNO := Lib.hid (show ¬ (k < L ∧ k < 300) → k % 2 = 0 ∧ 0 < q0.length + q1.length from fun h => ⟨by have := (HNO.out h).1; omega, (HNO.out h).2⟩)
          have HEE := Lib.hid he
          clear he
          by_cases hD : 1 ≤ dk ∧ dk ≤ 4
          · obtain ⟨hD1, hD4⟩ := hD
            obtain ⟨hkL, hk3⟩ := HAD.out hD1
            as_aux_lemma =>
              have t3 : decide (1 ≤ dk) = true := by simpa using hD1
              have t4 : decide (dk ≤ 4) = true := by simpa using hD4
              have hnc : wr.cell? ⟨w.heap.size + 1 + 1, 0, none⟩ = some (.int .u64 n0) := blk_cell HM.out.ns 0
              have hnf : wr.frozen? ⟨w.heap.size + 1 + 1, 0, none⟩ = false := blk_frozen HM.out.ns 0
              go_wp2_with fail
              obtain ⟨kd, hkd, hkc⟩ : ∃ kd : Int, (kd = 11 ∨ kd = 13 ∨ kd = 12 ∨ kd = 14) ∧ (#[.int .i64 11, .int .i64 13, .int .i64 12, .int .i64 14] : Array Value)[dk.toNat - 1]? = some (.int .i64 kd) := by
                have : dk = 1 ∨ dk = 2 ∨ dk = 3 ∨ dk = 4 := by omega
                rcases this with rfl | rfl | rfl | rfl
                · exact ⟨11, by simp, rfl⟩
                · exact ⟨13, by simp, rfl⟩
                · exact ⟨12, by simp, rfl⟩
                · exact ⟨14, by simp, rfl⟩
              obtain ⟨a', m, n', hae, hi'⟩ := HI.out.act (k := kd) hkd
              have hact := Lib.hid (fun w => (show Calls Try.prog 7 #[a.val, .int .i64 kd, .int .u64 (n0 + 1)] w fun e w' => e = .returned (.tuple #[a'.val, .int .i64 m, .int .u64 n', .int .i64 0]) ∧ Below w.heap.size w w' from by have := act_any a kd (n0 + 1) w; rw [hae] at this; exact this))
              have HI2 := Lib.hid hi'
              clear hae hi' hkd
              generalize hW : World.alloc (wr.setCell ⟨w.heap.size + 1 + 1, 0, none⟩ (.int .u64 (n0 + 1))) (.cells #[.int .i64 ek, .int .i64 dk] 32) = W
              have HM2 : AMem w.heap.size w W a b (.slice A0 q0.length c0) (.slice A1 q1.length c1) q0 q1 (n0 + 1) n1 := by subst hW; exact (HM.out.tick0 _).alloc _
              have BS : W.heap[wr.heap.size]? = some (.cells #[.int .i64 ek, .int .i64 dk] 32) := by subst hW; exact blk_new' _ (by simp)
              clear hW hnc hnf HM z0 z1 z2 z3
              have z0 := blk_lt HM2.hs
              have z1 := blk_lt HM2.ws
              have z2 := blk_lt HM2.ns
              have z3 := blk_lt HM2.ks
              have zS := blk_lt BS
              have h0 : W.cell? ⟨w.heap.size, 0, none⟩ = some (.int .i64 a.o) := blk_cell HM2.hs 0
              have h1 : W.cell? ⟨w.heap.size, 1, none⟩ = some (.int .u64 a.n) := blk_cell HM2.hs 1
              have h2 : W.cell? ⟨w.heap.size, 2, none⟩ = some (.int .i64 a.i) := blk_cell HM2.hs 2
              have h3 : W.cell? ⟨w.heap.size, 3, none⟩ = some (.int .u64 a.m) := blk_cell HM2.hs 3
              have hc : W.cell? ⟨w.heap.size + 1 + 1, 0, none⟩ = some (.int .u64 (n0 + 1)) := blk_cell HM2.ns 0
              have hk0 : W.cell? ⟨w.heap.size + 1 + 1 + 1, dk.toNat - 1, none⟩ = some (.int .i64 kd) := (blk_cell HM2.ks _).trans hkc
              have hs1 : W.cell? ⟨wr.heap.size, 1, none⟩ = some (.int .i64 dk) := blk_cell BS 1
              have HM3 := Lib.hid HM2
              clear HM2 BS hkc
              have hw0 : IntKind.i64.wrap (dk - 1) = dk - 1 := IntWalk.i64_in _ (by omega)
              have hw1 : 0 ≤ dk - 1 := by omega
              have hw2 : dk - 1 < 4 := by omega
              go_cut [10, 11, 12, 13] (fun s10 s11 s12 s13 wx => ∃ g, s10 = .pointer (some ⟨g, 0, none⟩) ∧ s11 = .int .i64 m ∧ s12 = .int .u64 n' ∧ s13 = .int .i64 0 ∧ AMem w.heap.size w wx a b (.slice A0 q0.length c0) (.slice A1 q1.length c1) q0 q1 (n0 + 1) n1 ∧ wx.heap[g]? = some (.cells #[.int .i64 a'.o, .int .u64 a'.n, .int .i64 a'.i, .int .u64 a'.m] 25) ∧ w.heap.size + 1 + 1 + 1 < g)
              case first =>
                go_region_held3 (fun w' => w'.cell? ⟨w.heap.size, 0, none⟩ = some (.int .i64 a.o) ∧ w'.cell? ⟨w.heap.size, 1, none⟩ = some (.int .u64 a.n) ∧ w'.cell? ⟨w.heap.size, 2, none⟩ = some (.int .i64 a.i) ∧ w'.cell? ⟨w.heap.size, 3, none⟩ = some (.int .u64 a.m) ∧ w'.cell? ⟨w.heap.size + 1 + 1, 0, none⟩ = some (.int .u64 (n0 + 1)) ∧ w'.cell? ⟨w.heap.size + 1 + 1 + 1, dk.toNat - 1, none⟩ = some (.int .i64 kd) ∧ w'.cell? ⟨wr.heap.size, 1, none⟩ = some (.int .i64 dk))
                  (first
                    | exact ⟨h0, h1, h2, h3, hc, hk0, hs1⟩
                    | (refine ⟨?_, ?_, ?_, ?_, ?_, ?_, ?_⟩ <;> (refine (Below.cell (B := W.heap.size) (w := W) (by repeat (first | exact hbW | exact Below.refl _ _ | refine Below.drew ?_ | refine Below.setCell ?_ (by first | exact hbc.size | (simp; done) | (simp; exact hbc.size)) _ | refine Below.alloc ?_ (by first | exact hbc.size | (simp; done) | (simp; exact hbc.size)) _)) (by first | (simp; done) | (simp; omega))).trans ?_; assumption)))
                  (first
                    | (go_at_call 7; refine (hact.out _).mono ?_; rintro e w' ⟨rfl, hbc⟩; replace hbc := below_undrew hbc; first | have hbW : Below W.heap.size W w' := hbc | (have hbW : Below W.heap.size W w' := (Below.alloc (Below.refl _ _) (Nat.le_refl _) _).trans (hbc.mono (by simp)); have hx0 : w'.cell? ⟨W.heap.size, 0, none⟩ = some (.int .i64 0) := (blk_cell (blk_below (blk_new W _) hbc (by simp)) 0).trans rfl; have hf0 : w'.frozen? ⟨W.heap.size, 0, none⟩ = false := blk_frozen (blk_below (blk_new W _) hbc (by simp)) 0; have hx1 : w'.cell? ⟨W.heap.size, 1, none⟩ = some (.int .u64 0) := (blk_cell (blk_below (blk_new W _) hbc (by simp)) 1).trans rfl; have hf1 : w'.frozen? ⟨W.heap.size, 1, none⟩ = false := blk_frozen (blk_below (blk_new W _) hbc (by simp)) 1; have hx2 : w'.cell? ⟨W.heap.size, 2, none⟩ = some (.int .i64 0) := (blk_cell (blk_below (blk_new W _) hbc (by simp)) 2).trans rfl; have hf2 : w'.frozen? ⟨W.heap.size, 2, none⟩ = false := blk_frozen (blk_below (blk_new W _) hbc (by simp)) 2; have hx3 : w'.cell? ⟨W.heap.size, 3, none⟩ = some (.int .u64 0) := (blk_cell (blk_below (blk_new W _) hbc (by simp)) 3).trans rfl; have hf3 : w'.frozen? ⟨W.heap.size, 3, none⟩ = false := blk_frozen (blk_below (blk_new W _) hbc (by simp)) 3; have zX : W.heap.size < w'.heap.size := by have := hbc.size; simp at this; omega)))
                all_goals
                  go_wp2_with fail
                  go_meet
                  have hbs := hbW.size
                  first
                    | refine ⟨w'.heap.size, rfl, rfl, rfl, rfl, (HM3.out.call hbW).alloc _, blk_new _ _, ?_⟩
                    | refine ⟨W.heap.size, rfl, rfl, rfl, rfl, HM3.out.call (Below.setCell (Below.setCell (Below.setCell (Below.setCell hbW (Nat.le_refl _) _) (Nat.le_refl _) _) (Nat.le_refl _) _) (Nat.le_refl _) _), blk_set_same (blk_set_same (blk_set_same (blk_set_same (blk_below (blk_new W _) hbc (Nat.lt_of_lt_of_eq (Nat.lt_succ_self _) (size_alloc W _).symm)) 0 _) 1 _) 2 _) 3 _, ?_⟩
                  omega
              case rest =>
                obtain ⟨g, rfl, rfl, rfl, rfl, HMc, BG, zg⟩ := hcut
                clear hact HM3 z0 z1 z2 z3 zS h0 h1 h2 h3 hc hk0 hs1 hw0 hw1 hw2
                have z0 := blk_lt HMc.hs
                have z1 := blk_lt HMc.ws
                have z2 := blk_lt HMc.ns
                have z3 := blk_lt HMc.ks
                have zG := blk_lt BG
                have zne : g ≠ w.heap.size := by omega
                have h0 : wc.cell? ⟨w.heap.size, 0, none⟩ = some (.int .i64 a.o) := blk_cell HMc.hs 0
                have h1 : wc.cell? ⟨w.heap.size, 1, none⟩ = some (.int .u64 a.n) := blk_cell HMc.hs 1
                have h2 : wc.cell? ⟨w.heap.size, 2, none⟩ = some (.int .i64 a.i) := blk_cell HMc.hs 2
                have h3 : wc.cell? ⟨w.heap.size, 3, none⟩ = some (.int .u64 a.m) := blk_cell HMc.hs 3
                have f0 : wc.frozen? ⟨w.heap.size, 0, none⟩ = false := blk_frozen HMc.hs 0
                have f1 : wc.frozen? ⟨w.heap.size, 1, none⟩ = false := blk_frozen HMc.hs 1
                have f2 : wc.frozen? ⟨w.heap.size, 2, none⟩ = false := blk_frozen HMc.hs 2
                have f3 : wc.frozen? ⟨w.heap.size, 3, none⟩ = false := blk_frozen HMc.hs 3
                have g0 : wc.cell? ⟨g, 0, none⟩ = some (.int .i64 a'.o) := blk_cell BG 0
                have g1 : wc.cell? ⟨g, 1, none⟩ = some (.int .u64 a'.n) := blk_cell BG 1
                have g2 : wc.cell? ⟨g, 2, none⟩ = some (.int .i64 a'.i) := blk_cell BG 2
                have g3 : wc.cell? ⟨g, 3, none⟩ = some (.int .u64 a'.m) := blk_cell BG 3
                have HMd := Lib.hid HMc
                clear HMc BG
                by_cases hm0 : m = 0
                · have t5 : (m != 0) = false := by simp [hm0]
                  have HM0 := Lib.hid hm0
                  clear hm0
                  go_wp2_with fail
                  have hfin : AMem w.heap.size w _ a' b _ _ q0 q1 (n0 + 1) n1 := HMd.out.half0 a'
                  have hi2 : Inv a' b q0 q1 (n0 + 1) n1 := by have := HI2.out; rw [if_pos HM0.out] at this; exact this
                  obtain ⟨hg, hn0, hn1⟩ := HG.out
                  obtain ⟨g', hg'⟩ : ∃ g', g' = 4 * (min L 300 - (k + 1)) + 2 * (q0.length + q1.length) + (if (if (k + 1) % 2 = 0 then q0 else q1) = [] then 1 else 0) := ⟨_, rfl⟩
                  have hlt : g' < gk := by rw [hg, hg']; split <;> split <;> omega
                  go_roundg g'
                  case measure => exact hlt
                  case rel => exact ⟨k + 1, a', b, _, _, q0, q1, n0 + 1, n1, by go_num, hfin, hi2, hg', by omega, by omega, by omega⟩
                · have t5 : (m != 0) = true := by simp [hm0]
                  have HM0 := Lib.hid hm0
                  clear hm0
                  have hx1 : wc.cell? ⟨w.heap.size + 1, 1, none⟩ = some (.slice A1 q1.length c1) := blk_cell HMd.out.ws 1
                  obtain ⟨i0, hi, hz0, hz1, hz2⟩ := info_parts Try.info37
                  have hql : q1.length ≤ 1201 := by have := HG.out.1; omega
                  go_wp2_with (at_builtin; refine wpList_append_seq _ rfl _ _ 27 rfl (w.heap.size + 1 + 1 + 1 + 1) 37 i0 (.agg #[.int .i64 0, .int .u64 0]) 2 16 Try.underlying27 hi hz0 hz1 hz2 rfl _ q1.length (flat q1) rfl ((HMd.out.half0 a').alloc _).q1 ⟨wc.heap.size, 0, none⟩ 1 1 [.int .i64 m, .int .u64 n'] rfl rfl ?c1 ?c2 (by decide) ?c3 ?c4 ?c5 ?_)
                  case c1 => intro j u hu; match j, hu with | 0, hu => simpa [go_sem, Addr.add] using hu | 1, hu => simpa [go_sem, Addr.add] using hu
                  case c2 => intro u hu; simp at hu; rcases hu with rfl | rfl <;> rfl
                  case c3 => unfold maxLen; omega
                  case c4 => omega
                  case c5 => simp; omega
                  intro v w1 hseq hgrow hat
                  obtain ⟨A2, c2, rfl⟩ := hseq.shape
                  have hpre : AMem w.heap.size w _ a' b _ _ q0 q1 (n0 + 1) n1 := (HMd.out.half0 a').alloc (.cells #[.int .i64 m, .int .u64 n'] 37)
                  have hwn : some (w.heap.size + 1) ≠ (Value.slice A1 q1.length c1).ownBlock := fun e => by have := (hpre.q1.lt _ e.symm).1; omega
                  have bw1 := blk_grown hpre.ws hgrow hwn
                  have x1 : w1.cell? ⟨w.heap.size + 1, 1, none⟩ = some (.slice A1 q1.length c1) := blk_cell bw1 1
                  have x2 : w1.frozen? ⟨w.heap.size + 1, 1, none⟩ = false := blk_frozen bw1 1
                  have HF := Lib.hid (hpre.push1 hgrow hseq (by simpa using hat))
                  clear hpre bw1 hseq hgrow hat hwn
                  go_wp2_with fail
                  have hi2 : Inv a' b q0 (q1 ++ [(m, n')]) (n0 + 1) n1 := by have := HI2.out; rw [if_neg HM0.out] at this; exact this
                  obtain ⟨hg, hn0, hn1⟩ := HG.out
                  obtain ⟨g', hg'⟩ : ∃ g', g' = 4 * (min L 300 - (k + 1)) + 2 * (q0.length + (q1 ++ [(m, n')]).length) + (if (if (k + 1) % 2 = 0 then q0 else q1 ++ [(m, n')]) = [] then 1 else 0) := ⟨_, rfl⟩
                  have hlt : g' < gk := by rw [hg, hg', List.length_append, List.length_singleton]; split <;> split <;> omega
                  go_roundg g'
                  case measure => exact hlt
                  case rel => exact ⟨k + 1, a', b, _, _, q0, q1 ++ [(m, n')], n0 + 1, n1, by go_num, HF.out, hi2, hg', by omega, by omega, by omega⟩
          · have HND := Lib.hid hD
            clear hD
            as_aux_lemma =>
              go_upto_region 12 with fail
              go_cut [64] (fun s64 wx => s64 = .bool false ∧ wr.alloc (.cells #[.int .i64 ek, .int .i64 dk] 32) = wx)
              case first =>
                by_cases h1 : 1 ≤ dk
                · have t3 : decide (1 ≤ dk) = true := by simpa using h1
                  have t4 : decide (dk ≤ 4) = false := by have := HND.out; simp; omega
                  go_wp2_with fail
                  go_meet
                  exact ⟨rfl, rfl⟩
                · have t3 : decide (1 ≤ dk) = false := by simp; omega
                  go_wp2_with fail
                  go_meet
                  exact ⟨rfl, rfl⟩
              case rest =>
                obtain ⟨rfl, hWc⟩ := hcut
                have HMc : AMem w.heap.size w wc a b (.slice A0 q0.length c0) (.slice A1 q1.length c1) q0 q1 n0 n1 := by rw [← hWc]; exact HM.out.alloc _
                clear hWc HM z0 z1 z2 z3
                have z0 := blk_lt HMc.hs
                have z1 := blk_lt HMc.ws
                have z2 := blk_lt HMc.ns
                have z3 := blk_lt HMc.ks
                by_cases hq : q0 = []
                · have ql : q0.length = 0 := by rw [hq]; rfl
                  have t5 : decide (0 < q0.length) = false := by simp [ql]
                  have t6 : decide ((0 : Int) < (q0.length : Int)) = false := by simp [ql]
                  have y : wc.cell? ⟨w.heap.size + 1, 0, none⟩ = some (.slice A0 q0.length c0) := blk_cell HMc.ws 0
                  have HQ := Lib.hid (And.intro hq ql)
                  clear hq ql
                  have HMd := Lib.hid HMc
                  clear HMc
                  go_wp2_with fail
                  obtain ⟨hg, hn0, hn1⟩ := HG.out
                  obtain ⟨g', hg'⟩ : ∃ g', g' = 4 * (min L 300 - (k + 1)) + 2 * (q0.length + q1.length) + (if (if (k + 1) % 2 = 0 then q0 else q1) = [] then 1 else 0) := ⟨_, rfl⟩
                  have hlt : g' < gk := by
                    rw [hg, hg']
                    by_cases hact : k < L ∧ k < 300
                    · split <;> split <;> omega
                    · obtain ⟨hk2, htot⟩ := HNO.out hact
                      have hq0 := HQ.out.1
                      have hql := HQ.out.2
                      have e1 : (if k % 2 = 0 then q0 else q1) = [] := by rw [if_pos (by omega)]; exact hq0
                      have e2 : (if (k + 1) % 2 = 0 then q0 else q1) ≠ [] := by rw [if_neg (by omega)]; intro e; rw [e] at htot; simp [hql] at htot
                      rw [if_pos e1, if_neg e2]
                      omega
                  go_roundg g'
                  case measure => exact hlt
                  case rel => exact ⟨k + 1, a, b, _, _, q0, q1, n0, n1, by go_num, HMd.out, HI.out, hg', by omega, by omega, by omega⟩
                · obtain ⟨l, q', rfl⟩ := List.exists_cons_of_ne_nil hq
                  clear hq
                  obtain ⟨gq, oq, cq, hv, hgb, hgl, hcc⟩ := HMc.q0.form (by simp)
                  obtain ⟨rfl, rfl⟩ : A0 = some ⟨gq, oq, none⟩ ∧ c0 = cq := by simp at hv; exact hv
                  clear hv
                  obtain ⟨a', t, hhe, hi'⟩ := HI.out.hear
                  have hact := Lib.hid (fun w => (show Calls Try.prog 8 #[a.val, .int .i64 l.1, .int .u64 l.2] w fun e w' => e = .returned (.tuple #[a'.val, .int .i64 t, .int .i64 0]) ∧ Below w.heap.size w w' from by have := hear_any a l.1 l.2 w; rw [hhe] at this; exact this))
                  have HI2 := Lib.hid hi'
                  clear hhe hi'
                  have h0 : wc.cell? ⟨w.heap.size, 0, none⟩ = some (.int .i64 a.o) := blk_cell HMc.hs 0
                  have h1 : wc.cell? ⟨w.heap.size, 1, none⟩ = some (.int .u64 a.n) := blk_cell HMc.hs 1
                  have h2 : wc.cell? ⟨w.heap.size, 2, none⟩ = some (.int .i64 a.i) := blk_cell HMc.hs 2
                  have h3 : wc.cell? ⟨w.heap.size, 3, none⟩ = some (.int .u64 a.m) := blk_cell HMc.hs 3
                  have y : wc.cell? ⟨w.heap.size + 1, 0, none⟩ = some (.slice (some ⟨gq, oq, none⟩) (q'.length + 1) c0) := blk_cell HMc.ws 0
                  have y1 : wc.cell? ⟨gq, oq, none⟩ = some (.int .i64 l.1) := (HMc.q0.cell 0 (by simp)).trans rfl
                  have y2 : wc.cell? ⟨gq, oq + 1, none⟩ = some (.int .u64 l.2) := (HMc.q0.cell 1 (by simp; omega)).trans rfl
                  have t5 : decide (0 < q'.length + 1) = true := by simp
                  have t6 : (0 : Int) < (q'.length : Int) + 1 := by omega
                  have zq : gq ≠ w.heap.size := by omega
                  have zq1 : gq ≠ w.heap.size + 1 := by omega
                  have hcq : q'.length + 1 ≤ c0 := by simpa using hcc
                  have HMd := Lib.hid HMc
                  clear HMc hcc
                  go_wp2_with fail
                  go_cut [14, 15, 16] (fun s14 s15 s16 wx => ∃ g, s14 = .pointer (some ⟨g, 0, none⟩) ∧ s15 = .int .i64 t ∧ s16 = .int .i64 0 ∧ AMem w.heap.size w wx a b (.slice (some ⟨gq, oq, none⟩) (q'.length + 1) c0) (.slice A1 q1.length c1) (l :: q') q1 n0 n1 ∧ wx.heap[g]? = some (.cells #[.int .i64 a'.o, .int .u64 a'.n, .int .i64 a'.i, .int .u64 a'.m] 25) ∧ w.heap.size + 1 + 1 + 1 < g)
                  case first =>
                    go_region_held3 (fun w' => w'.cell? ⟨w.heap.size, 0, none⟩ = some (.int .i64 a.o) ∧ w'.cell? ⟨w.heap.size, 1, none⟩ = some (.int .u64 a.n) ∧ w'.cell? ⟨w.heap.size, 2, none⟩ = some (.int .i64 a.i) ∧ w'.cell? ⟨w.heap.size, 3, none⟩ = some (.int .u64 a.m) ∧ w'.cell? ⟨w.heap.size + 1, 0, none⟩ = some (.slice (some ⟨gq, oq, none⟩) (q'.length + 1) c0) ∧ w'.cell? ⟨gq, oq, none⟩ = some (.int .i64 l.1) ∧ w'.cell? ⟨gq, oq + 1, none⟩ = some (.int .u64 l.2))
                      (first
                        | exact ⟨h0, h1, h2, h3, y, y1, y2⟩
                        | (refine ⟨?_, ?_, ?_, ?_, ?_, ?_, ?_⟩ <;> (refine (Below.cell (B := wc.heap.size) (w := wc) (by repeat (first | exact hbW | exact Below.refl _ _ | refine Below.drew ?_ | refine Below.setCell ?_ (by first | exact hbc.size | (simp; done) | (simp; exact hbc.size)) _ | refine Below.alloc ?_ (by first | exact hbc.size | (simp; done) | (simp; exact hbc.size)) _)) (by first | (simp; done) | (simp; omega))).trans ?_; assumption)))
                      (first
                        | (go_at_call 8; refine (hact.out _).mono ?_; rintro e w' ⟨rfl, hbc⟩; replace hbc := below_undrew hbc; first | have hbW : Below wc.heap.size wc w' := hbc | (have hbW : Below wc.heap.size wc w' := (Below.alloc (Below.refl _ _) (Nat.le_refl _) _).trans (hbc.mono (by simp)); have hx0 : w'.cell? ⟨wc.heap.size, 0, none⟩ = some (.int .i64 0) := (blk_cell (blk_below (blk_new wc _) hbc (by simp)) 0).trans rfl; have hf0 : w'.frozen? ⟨wc.heap.size, 0, none⟩ = false := blk_frozen (blk_below (blk_new wc _) hbc (by simp)) 0; have hx1 : w'.cell? ⟨wc.heap.size, 1, none⟩ = some (.int .u64 0) := (blk_cell (blk_below (blk_new wc _) hbc (by simp)) 1).trans rfl; have hf1 : w'.frozen? ⟨wc.heap.size, 1, none⟩ = false := blk_frozen (blk_below (blk_new wc _) hbc (by simp)) 1; have hx2 : w'.cell? ⟨wc.heap.size, 2, none⟩ = some (.int .i64 0) := (blk_cell (blk_below (blk_new wc _) hbc (by simp)) 2).trans rfl; have hf2 : w'.frozen? ⟨wc.heap.size, 2, none⟩ = false := blk_frozen (blk_below (blk_new wc _) hbc (by simp)) 2; have hx3 : w'.cell? ⟨wc.heap.size, 3, none⟩ = some (.int .u64 0) := (blk_cell (blk_below (blk_new wc _) hbc (by simp)) 3).trans rfl; have hf3 : w'.frozen? ⟨wc.heap.size, 3, none⟩ = false := blk_frozen (blk_below (blk_new wc _) hbc (by simp)) 3; have zX : wc.heap.size < w'.heap.size := by have := hbc.size; simp at this; omega)))
                    all_goals
                      go_wp2_with fail
                      go_meet
                      have hbs := hbW.size
                      first
                        | refine ⟨w'.heap.size, rfl, rfl, rfl, (HMd.out.call hbW).alloc _, blk_new _ _, ?_⟩
                        | refine ⟨wc.heap.size, rfl, rfl, rfl, HMd.out.call (Below.setCell (Below.setCell (Below.setCell (Below.setCell hbW (Nat.le_refl _) _) (Nat.le_refl _) _) (Nat.le_refl _) _) (Nat.le_refl _) _), blk_set_same (blk_set_same (blk_set_same (blk_set_same (blk_below (blk_new wc _) hbc (Nat.lt_of_lt_of_eq (Nat.lt_succ_self _) (size_alloc wc _).symm)) 0 _) 1 _) 2 _) 3 _, ?_⟩
                      omega
                  case rest =>
                    obtain ⟨g, rfl, rfl, rfl, HMe, BG, zg⟩ := hcut
                    clear hact HMd z0 z1 z2 z3 h0 h1 h2 h3 y y1 y2
                    have z0 := blk_lt HMe.hs
                    have z1 := blk_lt HMe.ws
                    have z2 := blk_lt HMe.ns
                    have z3 := blk_lt HMe.ks
                    have zG := blk_lt BG
                    have zne : g ≠ w.heap.size := by omega
                    have h0 : wc.cell? ⟨w.heap.size, 0, none⟩ = some (.int .i64 a.o) := blk_cell HMe.hs 0
                    have h1 : wc.cell? ⟨w.heap.size, 1, none⟩ = some (.int .u64 a.n) := blk_cell HMe.hs 1
                    have h2 : wc.cell? ⟨w.heap.size, 2, none⟩ = some (.int .i64 a.i) := blk_cell HMe.hs 2
                    have h3 : wc.cell? ⟨w.heap.size, 3, none⟩ = some (.int .u64 a.m) := blk_cell HMe.hs 3
                    have f0 : wc.frozen? ⟨w.heap.size, 0, none⟩ = false := blk_frozen HMe.hs 0
                    have f1 : wc.frozen? ⟨w.heap.size, 1, none⟩ = false := blk_frozen HMe.hs 1
                    have f2 : wc.frozen? ⟨w.heap.size, 2, none⟩ = false := blk_frozen HMe.hs 2
                    have f3 : wc.frozen? ⟨w.heap.size, 3, none⟩ = false := blk_frozen HMe.hs 3
                    have g0 : wc.cell? ⟨g, 0, none⟩ = some (.int .i64 a'.o) := blk_cell BG 0
                    have g1 : wc.cell? ⟨g, 1, none⟩ = some (.int .u64 a'.n) := blk_cell BG 1
                    have g2 : wc.cell? ⟨g, 2, none⟩ = some (.int .i64 a'.i) := blk_cell BG 2
                    have g3 : wc.cell? ⟨g, 3, none⟩ = some (.int .u64 a'.m) := blk_cell BG 3
                    have y : wc.cell? ⟨w.heap.size + 1, 0, none⟩ = some (.slice (some ⟨gq, oq, none⟩) (q'.length + 1) c0) := blk_cell HMe.ws 0
                    have yf : wc.frozen? ⟨w.heap.size + 1, 0, none⟩ = false := blk_frozen HMe.ws 0
                    obtain ⟨o2, ho2⟩ : ∃ o2, o2 = if 1 = c0 then oq else oq + 1 * 2 := ⟨_, rfl⟩
                    have hsl : ∀ w, (Instr.slice 27 (.slice (some ⟨gq, oq, none⟩) (q'.length + 1) c0) (some (.int .i64 1)) none none).run Try.prog w = .ok (.slice (some ⟨gq, o2, none⟩) q'.length (c0 - 1)) w := fun w => cut_one gq oq q'.length c0 o2 ho2 w
                    have HO := Lib.hid ho2
                    have HMf := Lib.hid HMe
                    clear ho2 HMe BG
                    go_wp2_with fail
                    have hfin : AMem w.heap.size w _ a' b _ _ q' q1 n0 n1 := (HMf.out.half0 a').pop0 HO.out
                    have hi2 := HI2.out
                    obtain ⟨hg, hn0, hn1⟩ := HG.out
                    obtain ⟨g', hg'⟩ : ∃ g', g' = 4 * (min L 300 - (k + 1)) + 2 * (q'.length + q1.length) + (if (if (k + 1) % 2 = 0 then q' else q1) = [] then 1 else 0) := ⟨_, rfl⟩
                    have hlt : g' < gk := by rw [hg, hg', List.length_cons]; split <;> split <;> omega
                    go_roundg g'
                    case measure => exact hlt
                    case rel => exact ⟨k + 1, a', b, _, _, q', q1, n0, n1, by go_num, hfin, hi2, hg', by omega, by omega, by omega⟩
        · have hE : bits .and .i64 ek 1 = 1 := by rw [and_one_i64]; exact he
          have HNO := Lib.hid (show ¬ (k < L ∧ k < 300) → k % 2 = 1 ∧ 0 < q0.length + q1.length from fun h => ⟨by have := (HNO.out h).1; omega, (HNO.out h).2⟩)
          have HEE := Lib.hid he
          clear he
          by_cases hD : 1 ≤ dk ∧ dk ≤ 4
          · obtain ⟨hD1, hD4⟩ := hD
            obtain ⟨hkL, hk3⟩ := HAD.out hD1
            as_aux_lemma =>
              have t3 : decide (1 ≤ dk) = true := by simpa using hD1
              have t4 : decide (dk ≤ 4) = true := by simpa using hD4
              have hnc : wr.cell? ⟨w.heap.size + 1 + 1, 1, none⟩ = some (.int .u64 n1) := blk_cell HM.out.ns 1
              have hnf : wr.frozen? ⟨w.heap.size + 1 + 1, 1, none⟩ = false := blk_frozen HM.out.ns 1
              go_wp2_with fail
              obtain ⟨kd, hkd, hkc⟩ : ∃ kd : Int, (kd = 11 ∨ kd = 13 ∨ kd = 12 ∨ kd = 14) ∧ (#[.int .i64 11, .int .i64 13, .int .i64 12, .int .i64 14] : Array Value)[dk.toNat - 1]? = some (.int .i64 kd) := by
                have : dk = 1 ∨ dk = 2 ∨ dk = 3 ∨ dk = 4 := by omega
                rcases this with rfl | rfl | rfl | rfl
                · exact ⟨11, by simp, rfl⟩
                · exact ⟨13, by simp, rfl⟩
                · exact ⟨12, by simp, rfl⟩
                · exact ⟨14, by simp, rfl⟩
              obtain ⟨b', m, n', hae, hi'⟩ := HI.out.swap.act (k := kd) hkd
              have hact := Lib.hid (fun w => (show Calls Try.prog 7 #[b.val, .int .i64 kd, .int .u64 (n1 + 1)] w fun e w' => e = .returned (.tuple #[b'.val, .int .i64 m, .int .u64 n', .int .i64 0]) ∧ Below w.heap.size w w' from by have := act_any b kd (n1 + 1) w; rw [hae] at this; exact this))
              have HI2 := Lib.hid hi'
              clear hae hi' hkd
              generalize hW : World.alloc (wr.setCell ⟨w.heap.size + 1 + 1, 1, none⟩ (.int .u64 (n1 + 1))) (.cells #[.int .i64 ek, .int .i64 dk] 32) = W
              have HM2 : AMem w.heap.size w W a b (.slice A0 q0.length c0) (.slice A1 q1.length c1) q0 q1 n0 (n1 + 1) := by subst hW; exact (HM.out.tick1 _).alloc _
              have BS : W.heap[wr.heap.size]? = some (.cells #[.int .i64 ek, .int .i64 dk] 32) := by subst hW; exact blk_new' _ (by simp)
              clear hW hnc hnf HM z0 z1 z2 z3
              have z0 := blk_lt HM2.hs
              have z1 := blk_lt HM2.ws
              have z2 := blk_lt HM2.ns
              have z3 := blk_lt HM2.ks
              have zS := blk_lt BS
              have h0 : W.cell? ⟨w.heap.size, 4, none⟩ = some (.int .i64 b.o) := blk_cell HM2.hs 4
              have h1 : W.cell? ⟨w.heap.size, 5, none⟩ = some (.int .u64 b.n) := blk_cell HM2.hs 5
              have h2 : W.cell? ⟨w.heap.size, 6, none⟩ = some (.int .i64 b.i) := blk_cell HM2.hs 6
              have h3 : W.cell? ⟨w.heap.size, 7, none⟩ = some (.int .u64 b.m) := blk_cell HM2.hs 7
              have hc : W.cell? ⟨w.heap.size + 1 + 1, 1, none⟩ = some (.int .u64 (n1 + 1)) := blk_cell HM2.ns 1
              have hk0 : W.cell? ⟨w.heap.size + 1 + 1 + 1, dk.toNat - 1, none⟩ = some (.int .i64 kd) := (blk_cell HM2.ks _).trans hkc
              have hs1 : W.cell? ⟨wr.heap.size, 1, none⟩ = some (.int .i64 dk) := blk_cell BS 1
              have HM3 := Lib.hid HM2
              clear HM2 BS hkc
              have hw0 : IntKind.i64.wrap (dk - 1) = dk - 1 := IntWalk.i64_in _ (by omega)
              have hw1 : 0 ≤ dk - 1 := by omega
              have hw2 : dk - 1 < 4 := by omega
              go_cut [10, 11, 12, 13] (fun s10 s11 s12 s13 wx => ∃ g, s10 = .pointer (some ⟨g, 0, none⟩) ∧ s11 = .int .i64 m ∧ s12 = .int .u64 n' ∧ s13 = .int .i64 0 ∧ AMem w.heap.size w wx a b (.slice A0 q0.length c0) (.slice A1 q1.length c1) q0 q1 n0 (n1 + 1) ∧ wx.heap[g]? = some (.cells #[.int .i64 b'.o, .int .u64 b'.n, .int .i64 b'.i, .int .u64 b'.m] 25) ∧ w.heap.size + 1 + 1 + 1 < g)
              case first =>
                go_region_held3 (fun w' => w'.cell? ⟨w.heap.size, 4, none⟩ = some (.int .i64 b.o) ∧ w'.cell? ⟨w.heap.size, 5, none⟩ = some (.int .u64 b.n) ∧ w'.cell? ⟨w.heap.size, 6, none⟩ = some (.int .i64 b.i) ∧ w'.cell? ⟨w.heap.size, 7, none⟩ = some (.int .u64 b.m) ∧ w'.cell? ⟨w.heap.size + 1 + 1, 1, none⟩ = some (.int .u64 (n1 + 1)) ∧ w'.cell? ⟨w.heap.size + 1 + 1 + 1, dk.toNat - 1, none⟩ = some (.int .i64 kd) ∧ w'.cell? ⟨wr.heap.size, 1, none⟩ = some (.int .i64 dk))
                  (first
                    | exact ⟨h0, h1, h2, h3, hc, hk0, hs1⟩
                    | (refine ⟨?_, ?_, ?_, ?_, ?_, ?_, ?_⟩ <;> (refine (Below.cell (B := W.heap.size) (w := W) (by repeat (first | exact hbW | exact Below.refl _ _ | refine Below.drew ?_ | refine Below.setCell ?_ (by first | exact hbc.size | (simp; done) | (simp; exact hbc.size)) _ | refine Below.alloc ?_ (by first | exact hbc.size | (simp; done) | (simp; exact hbc.size)) _)) (by first | (simp; done) | (simp; omega))).trans ?_; assumption)))
                  (first
                    | (go_at_call 7; refine (hact.out _).mono ?_; rintro e w' ⟨rfl, hbc⟩; replace hbc := below_undrew hbc; first | have hbW : Below W.heap.size W w' := hbc | (have hbW : Below W.heap.size W w' := (Below.alloc (Below.refl _ _) (Nat.le_refl _) _).trans (hbc.mono (by simp)); have hx0 : w'.cell? ⟨W.heap.size, 0, none⟩ = some (.int .i64 0) := (blk_cell (blk_below (blk_new W _) hbc (by simp)) 0).trans rfl; have hf0 : w'.frozen? ⟨W.heap.size, 0, none⟩ = false := blk_frozen (blk_below (blk_new W _) hbc (by simp)) 0; have hx1 : w'.cell? ⟨W.heap.size, 1, none⟩ = some (.int .u64 0) := (blk_cell (blk_below (blk_new W _) hbc (by simp)) 1).trans rfl; have hf1 : w'.frozen? ⟨W.heap.size, 1, none⟩ = false := blk_frozen (blk_below (blk_new W _) hbc (by simp)) 1; have hx2 : w'.cell? ⟨W.heap.size, 2, none⟩ = some (.int .i64 0) := (blk_cell (blk_below (blk_new W _) hbc (by simp)) 2).trans rfl; have hf2 : w'.frozen? ⟨W.heap.size, 2, none⟩ = false := blk_frozen (blk_below (blk_new W _) hbc (by simp)) 2; have hx3 : w'.cell? ⟨W.heap.size, 3, none⟩ = some (.int .u64 0) := (blk_cell (blk_below (blk_new W _) hbc (by simp)) 3).trans rfl; have hf3 : w'.frozen? ⟨W.heap.size, 3, none⟩ = false := blk_frozen (blk_below (blk_new W _) hbc (by simp)) 3; have zX : W.heap.size < w'.heap.size := by have := hbc.size; simp at this; omega)))
                all_goals
                  go_wp2_with fail
                  go_meet
                  have hbs := hbW.size
                  first
                    | refine ⟨w'.heap.size, rfl, rfl, rfl, rfl, (HM3.out.call hbW).alloc _, blk_new _ _, ?_⟩
                    | refine ⟨W.heap.size, rfl, rfl, rfl, rfl, HM3.out.call (Below.setCell (Below.setCell (Below.setCell (Below.setCell hbW (Nat.le_refl _) _) (Nat.le_refl _) _) (Nat.le_refl _) _) (Nat.le_refl _) _), blk_set_same (blk_set_same (blk_set_same (blk_set_same (blk_below (blk_new W _) hbc (Nat.lt_of_lt_of_eq (Nat.lt_succ_self _) (size_alloc W _).symm)) 0 _) 1 _) 2 _) 3 _, ?_⟩
                  omega
              case rest =>
                obtain ⟨g, rfl, rfl, rfl, rfl, HMc, BG, zg⟩ := hcut
                clear hact HM3 z0 z1 z2 z3 zS h0 h1 h2 h3 hc hk0 hs1 hw0 hw1 hw2
                have z0 := blk_lt HMc.hs
                have z1 := blk_lt HMc.ws
                have z2 := blk_lt HMc.ns
                have z3 := blk_lt HMc.ks
                have zG := blk_lt BG
                have zne : g ≠ w.heap.size := by omega
                have h0 : wc.cell? ⟨w.heap.size, 4, none⟩ = some (.int .i64 b.o) := blk_cell HMc.hs 4
                have h1 : wc.cell? ⟨w.heap.size, 5, none⟩ = some (.int .u64 b.n) := blk_cell HMc.hs 5
                have h2 : wc.cell? ⟨w.heap.size, 6, none⟩ = some (.int .i64 b.i) := blk_cell HMc.hs 6
                have h3 : wc.cell? ⟨w.heap.size, 7, none⟩ = some (.int .u64 b.m) := blk_cell HMc.hs 7
                have f0 : wc.frozen? ⟨w.heap.size, 4, none⟩ = false := blk_frozen HMc.hs 4
                have f1 : wc.frozen? ⟨w.heap.size, 5, none⟩ = false := blk_frozen HMc.hs 5
                have f2 : wc.frozen? ⟨w.heap.size, 6, none⟩ = false := blk_frozen HMc.hs 6
                have f3 : wc.frozen? ⟨w.heap.size, 7, none⟩ = false := blk_frozen HMc.hs 7
                have g0 : wc.cell? ⟨g, 0, none⟩ = some (.int .i64 b'.o) := blk_cell BG 0
                have g1 : wc.cell? ⟨g, 1, none⟩ = some (.int .u64 b'.n) := blk_cell BG 1
                have g2 : wc.cell? ⟨g, 2, none⟩ = some (.int .i64 b'.i) := blk_cell BG 2
                have g3 : wc.cell? ⟨g, 3, none⟩ = some (.int .u64 b'.m) := blk_cell BG 3
                have HMd := Lib.hid HMc
                clear HMc BG
                by_cases hm0 : m = 0
                · have t5 : (m != 0) = false := by simp [hm0]
                  have HM0 := Lib.hid hm0
                  clear hm0
                  go_wp2_with fail
                  have hfin : AMem w.heap.size w _ a b' _ _ q0 q1 n0 (n1 + 1) := HMd.out.half1 b'
                  have hi2 : Inv a b' q0 q1 n0 (n1 + 1) := by have := HI2.out; rw [if_pos HM0.out] at this; exact this.swap
                  obtain ⟨hg, hn0, hn1⟩ := HG.out
                  obtain ⟨g', hg'⟩ : ∃ g', g' = 4 * (min L 300 - (k + 1)) + 2 * (q0.length + q1.length) + (if (if (k + 1) % 2 = 0 then q0 else q1) = [] then 1 else 0) := ⟨_, rfl⟩
                  have hlt : g' < gk := by rw [hg, hg']; split <;> split <;> omega
                  go_roundg g'
                  case measure => exact hlt
                  case rel => exact ⟨k + 1, a, b', _, _, q0, q1, n0, n1 + 1, by go_num, hfin, hi2, hg', by omega, by omega, by omega⟩
                · have t5 : (m != 0) = true := by simp [hm0]
                  have HM0 := Lib.hid hm0
                  clear hm0
                  have hx1 : wc.cell? ⟨w.heap.size + 1, 0, none⟩ = some (.slice A0 q0.length c0) := blk_cell HMd.out.ws 0
                  obtain ⟨i0, hi, hz0, hz1, hz2⟩ := info_parts Try.info37
                  have hql : q0.length ≤ 1201 := by have := HG.out.1; omega
                  go_wp2_with (at_builtin; refine wpList_append_seq _ rfl _ _ 27 rfl (w.heap.size + 1 + 1 + 1 + 1) 37 i0 (.agg #[.int .i64 0, .int .u64 0]) 2 16 Try.underlying27 hi hz0 hz1 hz2 rfl _ q0.length (flat q0) rfl ((HMd.out.half1 b').alloc _).q0 ⟨wc.heap.size, 0, none⟩ 1 1 [.int .i64 m, .int .u64 n'] rfl rfl ?c1 ?c2 (by decide) ?c3 ?c4 ?c5 ?_)
                  case c1 => intro j u hu; match j, hu with | 0, hu => simpa [go_sem, Addr.add] using hu | 1, hu => simpa [go_sem, Addr.add] using hu
                  case c2 => intro u hu; simp at hu; rcases hu with rfl | rfl <;> rfl
                  case c3 => unfold maxLen; omega
                  case c4 => omega
                  case c5 => simp; omega
                  intro v w1 hseq hgrow hat
                  obtain ⟨A2, c2, rfl⟩ := hseq.shape
                  have hpre : AMem w.heap.size w _ a b' _ _ q0 q1 n0 (n1 + 1) := (HMd.out.half1 b').alloc (.cells #[.int .i64 m, .int .u64 n'] 37)
                  have hwn : some (w.heap.size + 1) ≠ (Value.slice A0 q0.length c0).ownBlock := fun e => by have := (hpre.q0.lt _ e.symm).1; omega
                  have bw1 := blk_grown hpre.ws hgrow hwn
                  have x1 : w1.cell? ⟨w.heap.size + 1, 0, none⟩ = some (.slice A0 q0.length c0) := blk_cell bw1 0
                  have x2 : w1.frozen? ⟨w.heap.size + 1, 0, none⟩ = false := blk_frozen bw1 0
                  have HF := Lib.hid (hpre.push0 hgrow hseq (by simpa using hat))
                  clear hpre bw1 hseq hgrow hat hwn
                  go_wp2_with fail
                  have hi2 : Inv a b' (q0 ++ [(m, n')]) q1 n0 (n1 + 1) := by have := HI2.out; rw [if_neg HM0.out] at this; exact this.swap
                  obtain ⟨hg, hn0, hn1⟩ := HG.out
                  obtain ⟨g', hg'⟩ : ∃ g', g' = 4 * (min L 300 - (k + 1)) + 2 * ((q0 ++ [(m, n')]).length + q1.length) + (if (if (k + 1) % 2 = 0 then q0 ++ [(m, n')] else q1) = [] then 1 else 0) := ⟨_, rfl⟩
                  have hlt : g' < gk := by rw [hg, hg', List.length_append, List.length_singleton]; split <;> split <;> omega
                  go_roundg g'
                  case measure => exact hlt
                  case rel => exact ⟨k + 1, a, b', _, _, q0 ++ [(m, n')], q1, n0, n1 + 1, by go_num, HF.out, hi2, hg', by omega, by omega, by omega⟩
          · have HND := Lib.hid hD
            clear hD
            as_aux_lemma =>
              go_upto_region 12 with fail
              go_cut [64] (fun s64 wx => s64 = .bool false ∧ wr.alloc (.cells #[.int .i64 ek, .int .i64 dk] 32) = wx)
              case first =>
                by_cases h1 : 1 ≤ dk
                · have t3 : decide (1 ≤ dk) = true := by simpa using h1
                  have t4 : decide (dk ≤ 4) = false := by have := HND.out; simp; omega
                  go_wp2_with fail
                  go_meet
                  exact ⟨rfl, rfl⟩
                · have t3 : decide (1 ≤ dk) = false := by simp; omega
                  go_wp2_with fail
                  go_meet
                  exact ⟨rfl, rfl⟩
              case rest =>
                obtain ⟨rfl, hWc⟩ := hcut
                have HMc : AMem w.heap.size w wc a b (.slice A0 q0.length c0) (.slice A1 q1.length c1) q0 q1 n0 n1 := by rw [← hWc]; exact HM.out.alloc _
                clear hWc HM z0 z1 z2 z3
                have z0 := blk_lt HMc.hs
                have z1 := blk_lt HMc.ws
                have z2 := blk_lt HMc.ns
                have z3 := blk_lt HMc.ks
                by_cases hq : q1 = []
                · have ql : q1.length = 0 := by rw [hq]; rfl
                  have t5 : decide (0 < q1.length) = false := by simp [ql]
                  have t6 : decide ((0 : Int) < (q1.length : Int)) = false := by simp [ql]
                  have y : wc.cell? ⟨w.heap.size + 1, 1, none⟩ = some (.slice A1 q1.length c1) := blk_cell HMc.ws 1
                  have HQ := Lib.hid (And.intro hq ql)
                  clear hq ql
                  have HMd := Lib.hid HMc
                  clear HMc
                  go_wp2_with fail
                  obtain ⟨hg, hn0, hn1⟩ := HG.out
                  obtain ⟨g', hg'⟩ : ∃ g', g' = 4 * (min L 300 - (k + 1)) + 2 * (q0.length + q1.length) + (if (if (k + 1) % 2 = 0 then q0 else q1) = [] then 1 else 0) := ⟨_, rfl⟩
                  have hlt : g' < gk := by
                    rw [hg, hg']
                    by_cases hact : k < L ∧ k < 300
                    · split <;> split <;> omega
                    · obtain ⟨hk2, htot⟩ := HNO.out hact
                      have hq0 := HQ.out.1
                      have hql := HQ.out.2
                      have e1 : (if k % 2 = 0 then q0 else q1) = [] := by rw [if_neg (by omega)]; exact hq0
                      have e2 : (if (k + 1) % 2 = 0 then q0 else q1) ≠ [] := by rw [if_pos (by omega)]; intro e; rw [e] at htot; simp [hql] at htot
                      rw [if_pos e1, if_neg e2]
                      omega
                  go_roundg g'
                  case measure => exact hlt
                  case rel => exact ⟨k + 1, a, b, _, _, q0, q1, n0, n1, by go_num, HMd.out, HI.out, hg', by omega, by omega, by omega⟩
                · obtain ⟨l, q', rfl⟩ := List.exists_cons_of_ne_nil hq
                  clear hq
                  obtain ⟨gq, oq, cq, hv, hgb, hgl, hcc⟩ := HMc.q1.form (by simp)
                  obtain ⟨rfl, rfl⟩ : A1 = some ⟨gq, oq, none⟩ ∧ c1 = cq := by simp at hv; exact hv
                  clear hv
                  obtain ⟨b', t, hhe, hi'⟩ := HI.out.swap.hear
                  have hact := Lib.hid (fun w => (show Calls Try.prog 8 #[b.val, .int .i64 l.1, .int .u64 l.2] w fun e w' => e = .returned (.tuple #[b'.val, .int .i64 t, .int .i64 0]) ∧ Below w.heap.size w w' from by have := hear_any b l.1 l.2 w; rw [hhe] at this; exact this))
                  have HI2 := Lib.hid hi'
                  clear hhe hi'
                  have h0 : wc.cell? ⟨w.heap.size, 4, none⟩ = some (.int .i64 b.o) := blk_cell HMc.hs 4
                  have h1 : wc.cell? ⟨w.heap.size, 5, none⟩ = some (.int .u64 b.n) := blk_cell HMc.hs 5
                  have h2 : wc.cell? ⟨w.heap.size, 6, none⟩ = some (.int .i64 b.i) := blk_cell HMc.hs 6
                  have h3 : wc.cell? ⟨w.heap.size, 7, none⟩ = some (.int .u64 b.m) := blk_cell HMc.hs 7
                  have y : wc.cell? ⟨w.heap.size + 1, 1, none⟩ = some (.slice (some ⟨gq, oq, none⟩) (q'.length + 1) c1) := blk_cell HMc.ws 1
                  have y1 : wc.cell? ⟨gq, oq, none⟩ = some (.int .i64 l.1) := (HMc.q1.cell 0 (by simp)).trans rfl
                  have y2 : wc.cell? ⟨gq, oq + 1, none⟩ = some (.int .u64 l.2) := (HMc.q1.cell 1 (by simp; omega)).trans rfl
                  have t5 : decide (0 < q'.length + 1) = true := by simp
                  have t6 : (0 : Int) < (q'.length : Int) + 1 := by omega
                  have zq : gq ≠ w.heap.size := by omega
                  have zq1 : gq ≠ w.heap.size + 1 := by omega
                  have hcq : q'.length + 1 ≤ c1 := by simpa using hcc
                  have HMd := Lib.hid HMc
                  clear HMc hcc
                  go_wp2_with fail
                  go_cut [14, 15, 16] (fun s14 s15 s16 wx => ∃ g, s14 = .pointer (some ⟨g, 0, none⟩) ∧ s15 = .int .i64 t ∧ s16 = .int .i64 0 ∧ AMem w.heap.size w wx a b (.slice A0 q0.length c0) (.slice (some ⟨gq, oq, none⟩) (q'.length + 1) c1) q0 (l :: q') n0 n1 ∧ wx.heap[g]? = some (.cells #[.int .i64 b'.o, .int .u64 b'.n, .int .i64 b'.i, .int .u64 b'.m] 25) ∧ w.heap.size + 1 + 1 + 1 < g)
                  case first =>
                    go_region_held3 (fun w' => w'.cell? ⟨w.heap.size, 4, none⟩ = some (.int .i64 b.o) ∧ w'.cell? ⟨w.heap.size, 5, none⟩ = some (.int .u64 b.n) ∧ w'.cell? ⟨w.heap.size, 6, none⟩ = some (.int .i64 b.i) ∧ w'.cell? ⟨w.heap.size, 7, none⟩ = some (.int .u64 b.m) ∧ w'.cell? ⟨w.heap.size + 1, 1, none⟩ = some (.slice (some ⟨gq, oq, none⟩) (q'.length + 1) c1) ∧ w'.cell? ⟨gq, oq, none⟩ = some (.int .i64 l.1) ∧ w'.cell? ⟨gq, oq + 1, none⟩ = some (.int .u64 l.2))
                      (first
                        | exact ⟨h0, h1, h2, h3, y, y1, y2⟩
                        | (refine ⟨?_, ?_, ?_, ?_, ?_, ?_, ?_⟩ <;> (refine (Below.cell (B := wc.heap.size) (w := wc) (by repeat (first | exact hbW | exact Below.refl _ _ | refine Below.drew ?_ | refine Below.setCell ?_ (by first | exact hbc.size | (simp; done) | (simp; exact hbc.size)) _ | refine Below.alloc ?_ (by first | exact hbc.size | (simp; done) | (simp; exact hbc.size)) _)) (by first | (simp; done) | (simp; omega))).trans ?_; assumption)))
                      (first
                        | (go_at_call 8; refine (hact.out _).mono ?_; rintro e w' ⟨rfl, hbc⟩; replace hbc := below_undrew hbc; first | have hbW : Below wc.heap.size wc w' := hbc | (have hbW : Below wc.heap.size wc w' := (Below.alloc (Below.refl _ _) (Nat.le_refl _) _).trans (hbc.mono (by simp)); have hx0 : w'.cell? ⟨wc.heap.size, 0, none⟩ = some (.int .i64 0) := (blk_cell (blk_below (blk_new wc _) hbc (by simp)) 0).trans rfl; have hf0 : w'.frozen? ⟨wc.heap.size, 0, none⟩ = false := blk_frozen (blk_below (blk_new wc _) hbc (by simp)) 0; have hx1 : w'.cell? ⟨wc.heap.size, 1, none⟩ = some (.int .u64 0) := (blk_cell (blk_below (blk_new wc _) hbc (by simp)) 1).trans rfl; have hf1 : w'.frozen? ⟨wc.heap.size, 1, none⟩ = false := blk_frozen (blk_below (blk_new wc _) hbc (by simp)) 1; have hx2 : w'.cell? ⟨wc.heap.size, 2, none⟩ = some (.int .i64 0) := (blk_cell (blk_below (blk_new wc _) hbc (by simp)) 2).trans rfl; have hf2 : w'.frozen? ⟨wc.heap.size, 2, none⟩ = false := blk_frozen (blk_below (blk_new wc _) hbc (by simp)) 2; have hx3 : w'.cell? ⟨wc.heap.size, 3, none⟩ = some (.int .u64 0) := (blk_cell (blk_below (blk_new wc _) hbc (by simp)) 3).trans rfl; have hf3 : w'.frozen? ⟨wc.heap.size, 3, none⟩ = false := blk_frozen (blk_below (blk_new wc _) hbc (by simp)) 3; have zX : wc.heap.size < w'.heap.size := by have := hbc.size; simp at this; omega)))
                    all_goals
                      go_wp2_with fail
                      go_meet
                      have hbs := hbW.size
                      first
                        | refine ⟨w'.heap.size, rfl, rfl, rfl, (HMd.out.call hbW).alloc _, blk_new _ _, ?_⟩
                        | refine ⟨wc.heap.size, rfl, rfl, rfl, HMd.out.call (Below.setCell (Below.setCell (Below.setCell (Below.setCell hbW (Nat.le_refl _) _) (Nat.le_refl _) _) (Nat.le_refl _) _) (Nat.le_refl _) _), blk_set_same (blk_set_same (blk_set_same (blk_set_same (blk_below (blk_new wc _) hbc (Nat.lt_of_lt_of_eq (Nat.lt_succ_self _) (size_alloc wc _).symm)) 0 _) 1 _) 2 _) 3 _, ?_⟩
                      omega
                  case rest =>
                    obtain ⟨g, rfl, rfl, rfl, HMe, BG, zg⟩ := hcut
                    clear hact HMd z0 z1 z2 z3 h0 h1 h2 h3 y y1 y2
                    have z0 := blk_lt HMe.hs
                    have z1 := blk_lt HMe.ws
                    have z2 := blk_lt HMe.ns
                    have z3 := blk_lt HMe.ks
                    have zG := blk_lt BG
                    have zne : g ≠ w.heap.size := by omega
                    have h0 : wc.cell? ⟨w.heap.size, 4, none⟩ = some (.int .i64 b.o) := blk_cell HMe.hs 4
                    have h1 : wc.cell? ⟨w.heap.size, 5, none⟩ = some (.int .u64 b.n) := blk_cell HMe.hs 5
                    have h2 : wc.cell? ⟨w.heap.size, 6, none⟩ = some (.int .i64 b.i) := blk_cell HMe.hs 6
                    have h3 : wc.cell? ⟨w.heap.size, 7, none⟩ = some (.int .u64 b.m) := blk_cell HMe.hs 7
                    have f0 : wc.frozen? ⟨w.heap.size, 4, none⟩ = false := blk_frozen HMe.hs 4
                    have f1 : wc.frozen? ⟨w.heap.size, 5, none⟩ = false := blk_frozen HMe.hs 5
                    have f2 : wc.frozen? ⟨w.heap.size, 6, none⟩ = false := blk_frozen HMe.hs 6
                    have f3 : wc.frozen? ⟨w.heap.size, 7, none⟩ = false := blk_frozen HMe.hs 7
                    have g0 : wc.cell? ⟨g, 0, none⟩ = some (.int .i64 b'.o) := blk_cell BG 0
                    have g1 : wc.cell? ⟨g, 1, none⟩ = some (.int .u64 b'.n) := blk_cell BG 1
                    have g2 : wc.cell? ⟨g, 2, none⟩ = some (.int .i64 b'.i) := blk_cell BG 2
                    have g3 : wc.cell? ⟨g, 3, none⟩ = some (.int .u64 b'.m) := blk_cell BG 3
                    have y : wc.cell? ⟨w.heap.size + 1, 1, none⟩ = some (.slice (some ⟨gq, oq, none⟩) (q'.length + 1) c1) := blk_cell HMe.ws 1
                    have yf : wc.frozen? ⟨w.heap.size + 1, 1, none⟩ = false := blk_frozen HMe.ws 1
                    obtain ⟨o2, ho2⟩ : ∃ o2, o2 = if 1 = c1 then oq else oq + 1 * 2 := ⟨_, rfl⟩
                    have hsl : ∀ w, (Instr.slice 27 (.slice (some ⟨gq, oq, none⟩) (q'.length + 1) c1) (some (.int .i64 1)) none none).run Try.prog w = .ok (.slice (some ⟨gq, o2, none⟩) q'.length (c1 - 1)) w := fun w => cut_one gq oq q'.length c1 o2 ho2 w
                    have HO := Lib.hid ho2
                    have HMf := Lib.hid HMe
                    clear ho2 HMe BG
                    go_wp2_with fail
                    have hfin : AMem w.heap.size w _ a b' _ _ q0 q' n0 n1 := (HMf.out.half1 b').pop1 HO.out
                    have hi2 := HI2.out.swap
                    obtain ⟨hg, hn0, hn1⟩ := HG.out
                    obtain ⟨g', hg'⟩ : ∃ g', g' = 4 * (min L 300 - (k + 1)) + 2 * (q0.length + q'.length) + (if (if (k + 1) % 2 = 0 then q0 else q') = [] then 1 else 0) := ⟨_, rfl⟩
                    have hlt : g' < gk := by rw [hg, hg', List.length_cons]; split <;> split <;> omega
                    go_roundg g'
                    case measure => exact hlt
                    case rel => exact ⟨k + 1, a, b', _, _, q0, q', n0, n1, by go_num, hfin, hi2, hg', by omega, by omega, by omega⟩
      | false =>
        as_aux_lemma =>
          have e := HGO.out
          simp at e
          obtain ⟨_, hq0, hq1⟩ := e
          subst hq0
          subst hq1
          obtain ⟨e1, e2⟩ := HI.out.da.done
          obtain ⟨e3, e4⟩ := HI.out.db.done
          obtain ⟨o, n, i, m⟩ := a
          obtain ⟨bo, bn, bi, bm⟩ := b
          simp only at e1 e2 e3 e4
          subst e1
          subst e2
          subst e3
          subst e4
          clear y0 y1
          obtain ⟨wo, rfl⟩ : ∃ wo : World, wo = wr := ⟨_, rfl⟩
          have h0 : wo.cell? ⟨w.heap.size, 0, none⟩ = some (.int .i64 o) := blk_cell HM.out.hs 0
          have h1 : wo.cell? ⟨w.heap.size, 1, none⟩ = some (.int .u64 n) := blk_cell HM.out.hs 1
          have h2 : wo.cell? ⟨w.heap.size, 2, none⟩ = some (.int .i64 bo) := blk_cell HM.out.hs 2
          have h3 : wo.cell? ⟨w.heap.size, 3, none⟩ = some (.int .u64 bn) := blk_cell HM.out.hs 3
          have h4 : wo.cell? ⟨w.heap.size, 4, none⟩ = some (.int .i64 bo) := blk_cell HM.out.hs 4
          have h5 : wo.cell? ⟨w.heap.size, 5, none⟩ = some (.int .u64 bn) := blk_cell HM.out.hs 5
          have h6 : wo.cell? ⟨w.heap.size, 6, none⟩ = some (.int .i64 o) := blk_cell HM.out.hs 6
          have h7 : wo.cell? ⟨w.heap.size, 7, none⟩ = some (.int .u64 n) := blk_cell HM.out.hs 7
          have hbw := Lib.hid HM.out.below
          clear HG HI HGO HM
          go_wp2_with fail
          go_loopg [17] 2 (fun g s wx => ∃ j : Nat, j ≤ 2 ∧ g = 2 - j ∧ s = .int .i64 j ∧ Below wo.heap.size wo wx)
          case atStart => exact ⟨0, by omega, rfl, rfl, Below.refl _ _⟩
          case round =>
            obtain ⟨j, hj, hgj, rfl, hbx⟩ := hrel
            have hj3 : j = 0 ∨ j = 1 ∨ j = 2 := by omega
            have x0 := (hbx.cell (p := ⟨w.heap.size, 0, none⟩) z0).trans h0
            have x1 := (hbx.cell (p := ⟨w.heap.size, 1, none⟩) z0).trans h1
            have x2 := (hbx.cell (p := ⟨w.heap.size, 2, none⟩) z0).trans h2
            have x3 := (hbx.cell (p := ⟨w.heap.size, 3, none⟩) z0).trans h3
            have x4 := (hbx.cell (p := ⟨w.heap.size, 4, none⟩) z0).trans h4
            have x5 := (hbx.cell (p := ⟨w.heap.size, 5, none⟩) z0).trans h5
            have x6 := (hbx.cell (p := ⟨w.heap.size, 6, none⟩) z0).trans h6
            have x7 := (hbx.cell (p := ⟨w.heap.size, 7, none⟩) z0).trans h7
            clear h0 h1 h2 h3 h4 h5 h6 h7
            have HBX := Lib.hid hbx
            clear hbx
            rcases hj3 with rfl | rfl | rfl
            · go_wp2_with fail
              go_quiet (fail)
              go_wp2_with fail
              go_roundg 1
              case measure => omega
              case rel => exact ⟨1, by omega, by omega, by first | rfl | go_num, below_drewN HBX.out _⟩
            · go_wp2_with fail
              go_quiet (fail)
              go_wp2_with fail
              go_roundg 0
              case measure => omega
              case rel => exact ⟨2, by omega, by omega, by first | rfl | go_num, below_drewN HBX.out _⟩
            · go_wp2_with fail
              refine (wakes_any _).mono ?_
              rintro e w2 ⟨rfl, hb2⟩
              go_wp2_with fail
              go_ret
              exact ⟨rfl, (hbw.out.trans (HBX.out.mono (by omega))).trans (hb2.mono (by have := HBX.out.size; omega))⟩
end Go.Proofs.Ytgaimcdkbknljaa
