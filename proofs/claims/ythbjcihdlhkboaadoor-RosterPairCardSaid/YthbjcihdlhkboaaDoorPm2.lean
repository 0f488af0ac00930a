/- The memory of RosterPair's law: a letter is laid behind the others, or taken away. -/
import Derived.Test.YthbjcihdlhkboaaDoorPa2
import Derived.Deep.LoopGhost
import Derived.Deep.DeepCutAuto
import Derived.Test.YthbjcihdlhkboaaDoorBit
namespace Go.Proofs.YthbjcihdlhkboaaDoor
set_option linter.unusedSimpArgs false
set_option linter.unusedVariables false
open Go.RowKit Go.Maps Go.Shelf Go.Lib

abbrev nameAnn : ByteArray := ⟨#[97, 110, 110]⟩
theorem ann_local : (localS nameAnn).1 = nameAnn ∧ (localS nameAnn).2 = 0 := by constructor <;> kernel_rfl
theorem bob_local : (localS textbob).1 = textbob ∧ (localS textbob).2 = 0 := by constructor <;> kernel_rfl

/-- Letters as cells. -/
def flatL (q : List (Int × Int)) : List Value := q.flatMap fun l => [.int .i64 l.1, .int .u64 l.2]
theorem flatL_len (q : List (Int × Int)) : (flatL q).length = q.length * 2 := by
  induction q with
  | nil => rfl
  | cons l q ih => simp [flatL] at *; omega
theorem flatL_add (q : List (Int × Int)) (l : Int × Int) : flatL (q ++ [l]) = flatL q ++ [.int .i64 l.1, .int .u64 l.2] := by simp [flatL]
theorem flatL_one {q : List (Int × Int)} {u : Value} (h : u ∈ flatL q) : u.oneCell' = true := by
  obtain ⟨l, _, hu⟩ := List.mem_flatMap.1 h
  simp at hu
  rcases hu with rfl | rfl <;> rfl

structure PMem (w wx : World) (B g rb0 mb0 rb1 mb1 : Nat) (V0 V1 : Value) (R S : RS) (q0 q1 : List (Int × Int)) : Prop where
  below : Below B w wx
  rs : wx.heap[g]? = some (.cells #[.pointer (some ⟨rb0, 0, none⟩), .pointer (some ⟨rb1, 0, none⟩)] 24)
  ns : wx.heap[g + 1]? = some (.cells #[.string nameAnn, .string textbob] 25)
  ws : wx.heap[g + 2]? = some (.cells #[V0, V1] 27)
  r0 : ∃ D, RoAt wx B rb0 mb0 R.list.length D R
  r1 : ∃ D, RoAt wx B rb1 mb1 S.list.length D S
  s0 : Seq wx B 38 2 V0 q0.length (flatL q0)
  s1 : Seq wx B 38 2 V1 q1.length (flatL q1)
  base : B ≤ g
  far : rb0 ≠ rb1 ∧ rb0 ≠ mb1 ∧ mb0 ≠ rb1 ∧ mb0 ≠ mb1
  two : V0.ownBlock = none ∨ V0.ownBlock ≠ V1.ownBlock

section
variable {w wx w2 : World} {B g rb0 mb0 rb1 mb1 : Nat} {V0 V1 : Value} {R S : RS} {q0 q1 : List (Int × Int)}

/-- A block of cells is no roster's. -/
theorem RoAtK.cells_ne {B rb mb n : Nat} {D : DataW Value} {kc : Int} (h : RoAtK wx B rb mb n D R kc) {k : Nat} {cs : Array Value} {T : TypeId} {fz : Nat × Nat} (hk : wx.heap[k]? = some (.cells cs T fz)) (hT : T ≠ 79) : k ≠ rb ∧ k ≠ mb := by
  refine ⟨fun e => ?_, fun e => ?_⟩
  · subst e
    rw [h.cells] at hk
    simp at hk
    exact hT hk.2.1.symm
  · obtain ⟨es, clock, hb, _⟩ := h.own
    subst e
    rw [hb] at hk
    cases hk

theorem PMem.call (h : PMem w wx B g rb0 mb0 rb1 mb1 V0 V1 R S q0 q1) (hb : Below wx.heap.size wx w2) : PMem w w2 B g rb0 mb0 rb1 mb1 V0 V1 R S q0 q1 where
  below := h.below.trans (hb.mono (by have := blk_lt h.rs; have := h.base; omega))
  rs := blk_below h.rs hb (blk_lt h.rs)
  ns := blk_below h.ns hb (blk_lt h.ns)
  ws := blk_below h.ws hb (blk_lt h.ws)
  r0 := let ⟨D, r⟩ := h.r0; ⟨D, r.below hb⟩
  r1 := let ⟨D, r⟩ := h.r1; ⟨D, r.below hb⟩
  s0 := h.s0.below hb (fun k hk => (h.s0.lt k hk).2)
  s1 := h.s1.below hb (fun k hk => (h.s1.lt k hk).2)
  base := h.base
  far := h.far
  two := h.two

/-- Behind a call on the first roster. -/
theorem PMem.op0 (h : PMem w wx B g rb0 mb0 rb1 mb1 V0 V1 R S q0 q1) {R' : RS} {n : Nat} (hr : AnyRo wx w2 B rb0 mb0 n R') (hu : Upd wx.heap.size (fun k => k = rb0 ∨ k = mb0) wx w2) : PMem w w2 B g rb0 mb0 rb1 mb1 V0 V1 R' S q0 q1 := by
  obtain ⟨D0, r0⟩ := h.r0
  obtain ⟨D1, r1⟩ := h.r1
  obtain ⟨n', D', _, r'⟩ := hr
  have lo := r0.lo
  have hseq : ∀ {V : Value} {q : List (Int × Int)}, Seq wx B 38 2 V q.length (flatL q) → Seq w2 B 38 2 V q.length (flatL q) := fun {V q} hs => hs.kept fun k hk => by
    obtain ⟨cur, hc⟩ := hs.block k hk
    have hne := r0.cells_ne hc (by decide)
    exact hu.block k (blk_lt hc) (by rintro (e | e); exact hne.1 e; exact hne.2 e)
  have hblk : ∀ {k : Nat} {cs : Array Value} {T : TypeId}, wx.heap[k]? = some (.cells cs T) → T ≠ 79 → w2.heap[k]? = some (.cells cs T) := fun {k cs T} hk hT => by
    have hne := r0.cells_ne hk hT
    exact blk_upd hk hu (blk_lt hk) (by rintro (e | e); exact hne.1 e; exact hne.2 e)
  exact {
    below := ⟨hu.os.trans h.below.os, hu.tape.trans h.below.tape, hu.output.trans h.below.output, Nat.le_trans h.below.size hu.size, fun k hk => (hu.block k (by have := r0.lt; omega) (by rintro (e | e) <;> omega)).trans (h.below.block k hk)⟩
    rs := hblk h.rs (by decide)
    ns := hblk h.ns (by decide)
    ws := hblk h.ws (by decide)
    r0 := ⟨D', r'.tight⟩
    r1 := ⟨D1, RoAtK.upd r1 hu (Nat.le_refl _) (by have := h.far; rintro (e | e) <;> omega) (by have := h.far; rintro (e | e) <;> omega) (fun k cur hk _ => by
      have hne := r0.cells_ne hk (by decide)
      rintro (e | e)
      · exact hne.1 e
      · exact hne.2 e)⟩
    s0 := hseq h.s0
    s1 := hseq h.s1
    base := h.base
    far := h.far
    two := h.two }

/-- Behind a call on the second roster. -/
theorem PMem.op1 (h : PMem w wx B g rb0 mb0 rb1 mb1 V0 V1 R S q0 q1) {S' : RS} {n : Nat} (hr : AnyRo wx w2 B rb1 mb1 n S') (hu : Upd wx.heap.size (fun k => k = rb1 ∨ k = mb1) wx w2) : PMem w w2 B g rb0 mb0 rb1 mb1 V0 V1 R S' q0 q1 := by
  obtain ⟨D0, r0⟩ := h.r0
  obtain ⟨D1, r1⟩ := h.r1
  obtain ⟨n', D', _, r'⟩ := hr
  have lo := r1.lo
  have hseq : ∀ {V : Value} {q : List (Int × Int)}, Seq wx B 38 2 V q.length (flatL q) → Seq w2 B 38 2 V q.length (flatL q) := fun {V q} hs => hs.kept fun k hk => by
    obtain ⟨cur, hc⟩ := hs.block k hk
    have hne := r1.cells_ne hc (by decide)
    exact hu.block k (blk_lt hc) (by rintro (e | e); exact hne.1 e; exact hne.2 e)
  have hblk : ∀ {k : Nat} {cs : Array Value} {T : TypeId}, wx.heap[k]? = some (.cells cs T) → T ≠ 79 → w2.heap[k]? = some (.cells cs T) := fun {k cs T} hk hT => by
    have hne := r1.cells_ne hk hT
    exact blk_upd hk hu (blk_lt hk) (by rintro (e | e); exact hne.1 e; exact hne.2 e)
  exact {
    below := ⟨hu.os.trans h.below.os, hu.tape.trans h.below.tape, hu.output.trans h.below.output, Nat.le_trans h.below.size hu.size, fun k hk => (hu.block k (by have := r1.lt; omega) (by rintro (e | e) <;> omega)).trans (h.below.block k hk)⟩
    rs := hblk h.rs (by decide)
    ns := hblk h.ns (by decide)
    ws := hblk h.ws (by decide)
    r0 := ⟨D0, RoAtK.upd r0 hu (Nat.le_refl _) (by have := h.far; rintro (e | e) <;> omega) (by have := h.far; rintro (e | e) <;> omega) (fun k cur hk _ => by
      have hne := r1.cells_ne hk (by decide)
      rintro (e | e)
      · exact hne.1 e
      · exact hne.2 e)⟩
    r1 := ⟨D', r'.tight⟩
    s0 := hseq h.s0
    s1 := hseq h.s1
    base := h.base
    far := h.far
    two := h.two }

theorem RoAtK.lower {B' rb mb n : Nat} {D : DataW Value} {kc : Int} (h : RoAtK wx B rb mb n D R kc) (hB : B' ≤ B) : RoAtK wx B' rb mb n D R kc :=
  { h with
    lists := fun s => by
      rcases h.lists s with hn | ⟨g, e, a, b, c, d⟩
      · exact .inl hn
      · exact .inr ⟨g, e, a, b, c, d.lower hB⟩
    lo := ⟨Nat.le_trans hB h.lo.1, Nat.le_trans hB h.lo.2⟩ }

/-- Ahead of the second loop: k rosters are there. -/
def Made (w wx : World) (x y : Int) (k : Nat) : Prop :=
  Below w.heap.size w wx ∧ wx.heap[w.heap.size + 1]? = some (.cells #[.string nameAnn, .string textbob] 25) ∧ wx.heap[w.heap.size + 2]? = some (.cells #[.slice none 0 0, .slice none 0 0] 27) ∧
  ((k = 0 ∧ wx.heap[w.heap.size]? = some (.cells #[.pointer none, .pointer none] 24)) ∨
   (k = 1 ∧ ∃ rb0 mb0 D, wx.heap[w.heap.size]? = some (.cells #[.pointer (some ⟨rb0, 0, none⟩), .pointer none] 24) ∧ RoAt wx w.heap.size rb0 mb0 0 D (RS.new x y)) ∨
   (k = 2 ∧ ∃ rb0 mb0 rb1 mb1, PMem w wx w.heap.size w.heap.size rb0 mb0 rb1 mb1 (.slice none 0 0) (.slice none 0 0) (RS.new x y) (RS.new x y) [] []))
end

end Go.Proofs.YthbjcihdlhkboaaDoor

namespace Go.Proofs.YthbjcihdlhkboaaDoor
set_option linter.unusedSimpArgs false
set_option linter.unusedVariables false
open Go.RowKit Go.Maps Go.Shelf Go.Lib

/-- A request may be answered by a letter; no other is. -/
def wt1 (l : Int × Int) : Nat := if l.1 = 1 then 2 else 1
def wt (q : List (Int × Int)) : Nat := (q.map wt1).sum
theorem wt1_pos (l : Int × Int) : 1 ≤ wt1 l ∧ wt1 l ≤ 2 := by unfold wt1; split <;> omega
theorem wt_nil : wt [] = 0 := rfl
theorem wt_cons (l : Int × Int) (q : List (Int × Int)) : wt (l :: q) = wt1 l + wt q := by simp [wt]
theorem wt_snoc (l : Int × Int) (q : List (Int × Int)) : wt (q ++ [l]) = wt q + wt1 l := by simp [wt]
theorem len_le_wt (q : List (Int × Int)) : q.length ≤ wt q := by
  induction q with
  | nil => simp [wt]
  | cons l q ih => rw [wt_cons, List.length_cons]; have := wt1_pos l; omega
theorem wt_zero {q : List (Int × Int)} (h : wt q = 0) : q = [] := by
  have := len_le_wt q
  exact List.eq_nil_of_length_eq_zero (by omega)

theorem hear_deny_ask {R : RS} {c : ByteArray} {k n : Int} (h : (R.hearAll c k n).2.2.1 = true) : k = 1 := by
  unfold RS.hearAll at h
  cases hr : R.hear c k n with
  | error e => rw [hr] at h; cases h
  | ok r =>
    rw [hr] at h
    obtain ⟨R', t, dn, ch⟩ := r
    simp only at h
    unfold RS.hear at hr
    split at hr
    · split at hr
      · cases hr
      · split at hr
        · rename_i hc; exact hc.2.1
        · simp only [Except.ok.injEq, Prod.mk.injEq] at hr
          rw [← hr.2.2.1] at h; cases h
    · cases hr

theorem meas_lt {L k A C : Nat} {p q : Prop} [Decidable p] [Decidable q] (h : C + 1 ≤ A) : 6 * (min L 150 - (k + 1)) + 2 * C + (if q then 1 else 0) < 6 * (min L 150 - k) + 2 * A + (if p then 1 else 0) := by
  split <;> split <;> omega
theorem wt_answer0 {l : Int × Int} {q p : List (Int × Int)} {n : Int} (h : l.1 = 1) : (wt q + wt (p ++ [(4, n)])) + 1 ≤ wt (l :: q) + wt p := by
  rw [wt_cons, wt_snoc]
  have h1 : wt1 l = 2 := by unfold wt1; rw [if_pos h]
  have h2 : wt1 (4, n) = 1 := rfl
  rw [h1, h2]
  generalize wt q = a
  generalize wt p = b
  omega
theorem wt_answer1 {l : Int × Int} {q p : List (Int × Int)} {n : Int} (h : l.1 = 1) : (wt (p ++ [(4, n)]) + wt q) + 1 ≤ wt p + wt (l :: q) := by
  have := wt_answer0 (q := q) (p := p) (n := n) h
  generalize wt q = a at *
  generalize wt p = b at *
  generalize wt (l :: q) = c at *
  generalize wt (p ++ [(4, n)]) = d at *
  omega

theorem half_entry (R : RS) (s t : ByteArray) : ((R.get s).getD (Ent.new t)).half = (R.entry s).half := by
  unfold RS.entry
  cases R.get s <;> rfl

end Go.Proofs.YthbjcihdlhkboaaDoor

namespace Go.Proofs.YthbjcihdlhkboaaDoor
set_option linter.unusedSimpArgs false
set_option linter.unusedVariables false
open Go.RowKit Go.Maps Go.Shelf Go.Lib

theorem Upd.of_grownR {w w' : World} {row : Option Nat} (h : w.grownBy w' row) : Upd w.heap.size (fun k => some k = row) w w' := ⟨h.os, h.tape, h.output, h.size, fun k hk hn => h.block k hk hn⟩
theorem Upd.weaken {B : Nat} {ks ks' : Nat → Prop} {w w' : World} (h : Upd B ks w w') (hk : ∀ k, ks k → ks' k) : Upd B ks' w w' := ⟨h.os, h.tape, h.output, h.size, fun k hB hn => h.block k hB (fun e => hn (hk k e))⟩
theorem Upd.undrew {B : Nat} {ks : Nat → Prop} {w w' : World} (h : Upd B ks w.drew w') : Upd B ks w w' := ⟨h.os, h.tape, h.output, h.size, h.block⟩
theorem AnyRo.undrew {w w' : World} {B rb mb n : Nat} {R : RS} (h : AnyRo w.drew w' B rb mb n R) : AnyRo w w' B rb mb n R := h
theorem RoAtK.drew {w : World} {B rb mb n : Nat} {D : DataW Value} {R : RS} {kc : Int} (h : RoAtK w B rb mb n D R kc) : RoAtK w.drew B rb mb n D R kc := h.below ⟨rfl, rfl, rfl, Nat.le_refl _, fun _ _ => rfl⟩
theorem Tabs.drew {w : World} (h : Tabs w) : Tabs w.drew := h.later ⟨rfl, rfl, rfl, Nat.le_refl _, fun _ _ => rfl⟩

theorem RoAtK.upd2 {wx w2 : World} {B rb mb n : Nat} {D : DataW Value} {R : RS} {kc : Int} {ks : Nat → Prop} (h : RoAtK wx B rb mb n D R kc) (hu : Upd wx.heap.size ks wx w2)
    (hk : ∀ k, ks k → ∃ cs T fz, wx.heap[k]? = some (.cells cs T fz) ∧ T ≠ 79 ∧ T ≠ 9) : RoAtK w2 B rb mb n D R kc := by
  refine h.upd hu (Nat.le_refl _) (fun e => ?_) (fun e => ?_) (fun k cur hc _ e => ?_)
  · obtain ⟨cs, T, fz, h1, h2, _⟩ := hk rb e
    exact (h.cells_ne h1 h2).1 rfl
  · obtain ⟨cs, T, fz, h1, h2, _⟩ := hk mb e
    exact (h.cells_ne h1 h2).2 rfl
  · obtain ⟨cs, T, fz, h1, _, h2⟩ := hk k e
    rw [hc] at h1
    simp at h1
    exact h2 h1.2.1.symm

section
variable {w wx w2 : World} {B g rb0 mb0 rb1 mb1 : Nat} {V0 V1 : Value} {R S : RS} {q0 q1 : List (Int × Int)}

theorem PMem.alloc (h : PMem w wx B g rb0 mb0 rb1 mb1 V0 V1 R S q0 q1) (o : Obj) : PMem w (wx.alloc o) B g rb0 mb0 rb1 mb1 V0 V1 R S q0 q1 := h.call ((Below.refl _ _).alloc (Nat.le_refl _) _)
theorem PMem.drew (h : PMem w wx B g rb0 mb0 rb1 mb1 V0 V1 R S q0 q1) : PMem w wx.drew B g rb0 mb0 rb1 mb1 V0 V1 R S q0 q1 := h.call ⟨rfl, rfl, rfl, Nat.le_refl _, fun _ _ => rfl⟩

/-- The queues are written. -/
theorem PMem.queues (h : PMem w wx B g rb0 mb0 rb1 mb1 V0 V1 R S q0 q1) {ks : Nat → Prop} {V0' V1' : Value} {p0 p1 : List (Int × Int)} (hu : Upd wx.heap.size ks wx w2)
    (hk : ∀ k, ks k → k = g + 2 ∨ (B ≤ k ∧ ∃ cur, wx.heap[k]? = some (.cells cur 38 (0, 0)))) (hws : w2.heap[g + 2]? = some (.cells #[V0', V1'] 27))
    (h0 : Seq w2 B 38 2 V0' p0.length (flatL p0)) (h1 : Seq w2 B 38 2 V1' p1.length (flatL p1)) (ht : V0'.ownBlock = none ∨ V0'.ownBlock ≠ V1'.ownBlock) :
    PMem w w2 B g rb0 mb0 rb1 mb1 V0' V1' R S p0 p1 := by
  have hkind : ∀ k, ks k → ∃ cs T fz, wx.heap[k]? = some (.cells cs T fz) ∧ T ≠ 79 ∧ T ≠ 9 := by
    intro k hkk
    rcases hk k hkk with rfl | ⟨_, cur, hc⟩
    · exact ⟨_, _, _, h.ws, by decide, by decide⟩
    · exact ⟨_, _, _, hc, by decide, by decide⟩
  obtain ⟨D0, r0⟩ := h.r0
  obtain ⟨D1, r1⟩ := h.r1
  have hbase := h.base
  exact {
    below := h.below.trans (Upd.below hu (fun k hkk => by rcases hk k hkk with rfl | ⟨hB, _⟩; omega; exact hB) (by have := blk_lt h.rs; omega))
    rs := blk_upd h.rs hu (blk_lt h.rs) (fun e => by
      rcases hk g e with e | ⟨_, cur, hc⟩
      · omega
      · rw [h.rs] at hc; simp at hc)
    ns := blk_upd h.ns hu (blk_lt h.ns) (fun e => by
      rcases hk (g + 1) e with e | ⟨_, cur, hc⟩
      · omega
      · rw [h.ns] at hc; simp at hc)
    ws := hws
    r0 := ⟨D0, r0.upd2 hu hkind⟩
    r1 := ⟨D1, r1.upd2 hu hkind⟩
    s0 := h0
    s1 := h1
    base := h.base
    far := h.far
    two := ht }

theorem PMem.ws_ne (h : PMem w wx B g rb0 mb0 rb1 mb1 V0 V1 R S q0 q1) : V0.ownBlock ≠ some (g + 2) ∧ V1.ownBlock ≠ some (g + 2) := by
  constructor
  · intro e
    obtain ⟨cur, hc⟩ := h.s0.block _ e
    rw [h.ws] at hc; simp at hc
  · intro e
    obtain ⟨cur, hc⟩ := h.s1.block _ e
    rw [h.ws] at hc; simp at hc

/-- A letter is laid behind the others on the way to end 1, and the slice is stored. -/
theorem PMem.push1 (h : PMem w wx B g rb0 mb0 rb1 mb1 V0 V1 R S q0 q1) {v : Value} {m n : Int} (hg : wx.grownBy w2 V1.ownBlock) (hs : Seq w2 B 38 2 v (q1.length + 1) (flatL q1 ++ [.int .i64 m, .int .u64 n]))
    (hat : v.ownBlock = V1.ownBlock ∨ v.ownBlock = some wx.heap.size) : PMem w (w2.setCell ⟨g + 2, 1, none⟩ v) B g rb0 mb0 rb1 mb1 V0 v R S q0 (q1 ++ [(m, n)]) := by
  have hz := blk_lt h.ws
  have hu : Upd wx.heap.size (fun k => k = g + 2 ∨ some k = V1.ownBlock) wx (w2.setCell ⟨g + 2, 1, none⟩ v) := ((Upd.of_grownR hg).weaken (fun k e => .inr e)).setCell (.inl (.inl rfl)) _
  have hne := h.ws_ne
  have hv : v.ownBlock ≠ some (g + 2) := by
    rcases hat with e | e
    · rw [e]; exact hne.2
    · rw [e]; simp; omega
  have h0 : Seq w2 B 38 2 V0 q0.length (flatL q0) := h.s0.grown hg h.two
  refine h.queues hu (fun k hk => ?_) (blk_set_same (blk_grown h.ws hg (Ne.symm hne.2)) 1 _) (h0.setCell _ hne.1) ?_ ?_
  · rcases hk with e | e
    · exact .inl e
    · exact .inr ⟨(h.s1.lt k e.symm).1, h.s1.block k e.symm⟩
  · rw [flatL_add, List.length_append]
    exact hs.setCell _ hv
  · rcases h.two with e | e
    · exact .inl e
    · rcases hat with ht | ht
      · exact .inr (by rw [ht]; exact e)
      · right
        rw [ht]
        intro e2
        have := (h.s0.lt _ e2).2
        omega

theorem PMem.push0 (h : PMem w wx B g rb0 mb0 rb1 mb1 V0 V1 R S q0 q1) {v : Value} {m n : Int} (hg : wx.grownBy w2 V0.ownBlock) (hs : Seq w2 B 38 2 v (q0.length + 1) (flatL q0 ++ [.int .i64 m, .int .u64 n]))
    (hat : v.ownBlock = V0.ownBlock ∨ v.ownBlock = some wx.heap.size) : PMem w (w2.setCell ⟨g + 2, 0, none⟩ v) B g rb0 mb0 rb1 mb1 v V1 R S (q0 ++ [(m, n)]) q1 := by
  have hz := blk_lt h.ws
  have hu : Upd wx.heap.size (fun k => k = g + 2 ∨ some k = V0.ownBlock) wx (w2.setCell ⟨g + 2, 0, none⟩ v) := ((Upd.of_grownR hg).weaken (fun k e => .inr e)).setCell (.inl (.inl rfl)) _
  have hne := h.ws_ne
  have hv : v.ownBlock ≠ some (g + 2) := by
    rcases hat with e | e
    · rw [e]; exact hne.1
    · rw [e]; simp; omega
  have hap : V1.ownBlock = none ∨ V1.ownBlock ≠ V0.ownBlock := by
    rcases h.two with e | e
    · cases hv : V1.ownBlock with
      | none => exact .inl rfl
      | some k => right; rw [e]; simp
    · exact .inr (Ne.symm e)
  have h1 : Seq w2 B 38 2 V1 q1.length (flatL q1) := h.s1.grown hg hap
  refine h.queues hu (fun k hk => ?_) (blk_set_same (blk_grown h.ws hg (Ne.symm hne.1)) 0 _) ?_ (h1.setCell _ hne.2) ?_
  · rcases hk with e | e
    · exact .inl e
    · exact .inr ⟨(h.s0.lt k e.symm).1, h.s0.block k e.symm⟩
  · rw [flatL_add, List.length_append]
    exact hs.setCell _ hv
  · rcases hat with ht | ht
    · rw [ht]; exact h.two
    · right
      rw [ht]
      intro e2
      have := (h.s1.lt _ e2.symm).2
      omega

theorem pop_letter {gq off c o2 : Nat} {l : Int × Int} {q : List (Int × Int)} (h : Seq wx B 38 2 (.slice (some ⟨gq, off, none⟩) (q.length + 1) c) (l :: q).length (flatL (l :: q))) (ho : o2 = if 1 = c then off else off + 1 * 2) :
    Seq wx B 38 2 (.slice (some ⟨gq, o2, none⟩) q.length (c - 1)) q.length (flatL q) := by
  have h2 := Seq.drop (n := q.length + 1) (k := 1) h (by omega)
  rw [← ho] at h2
  exact h2

/-- The first letter on the way to end 0 is taken away. -/
theorem PMem.pop0 {gq off c o2 : Nat} {l : Int × Int} {q : List (Int × Int)} (h : PMem w wx B g rb0 mb0 rb1 mb1 (.slice (some ⟨gq, off, none⟩) (q.length + 1) c) V1 R S (l :: q) q1) (ho : o2 = if 1 = c then off else off + 1 * 2) :
    PMem w (wx.setCell ⟨g + 2, 0, none⟩ (.slice (some ⟨gq, o2, none⟩) q.length (c - 1))) B g rb0 mb0 rb1 mb1 (.slice (some ⟨gq, o2, none⟩) q.length (c - 1)) V1 R S q q1 := by
  have hne := h.ws_ne
  refine h.queues (ks := fun k => k = g + 2) (Upd.setCell (ks := fun k => k = g + 2) (Upd.refl _ _ _) (a := (⟨g + 2, 0, none⟩ : Addr)) (.inl rfl) _) (fun k hk => .inl hk) (blk_set_same h.ws 0 _) ((pop_letter h.s0 ho).setCell _ (by simpa [Value.ownBlock] using hne.1)) (h.s1.setCell _ hne.2) (by simpa [Value.ownBlock] using h.two)
theorem PMem.pop1 {gq off c o2 : Nat} {l : Int × Int} {q : List (Int × Int)} (h : PMem w wx B g rb0 mb0 rb1 mb1 V0 (.slice (some ⟨gq, off, none⟩) (q.length + 1) c) R S q0 (l :: q)) (ho : o2 = if 1 = c then off else off + 1 * 2) :
    PMem w (wx.setCell ⟨g + 2, 1, none⟩ (.slice (some ⟨gq, o2, none⟩) q.length (c - 1))) B g rb0 mb0 rb1 mb1 V0 (.slice (some ⟨gq, o2, none⟩) q.length (c - 1)) R S q0 q := by
  have hne := h.ws_ne
  refine h.queues (ks := fun k => k = g + 2) (Upd.setCell (ks := fun k => k = g + 2) (Upd.refl _ _ _) (a := (⟨g + 2, 1, none⟩ : Addr)) (.inl rfl) _) (fun k hk => .inl hk) (blk_set_same h.ws 1 _) (h.s0.setCell _ hne.1) ((pop_letter h.s1 ho).setCell _ (by simpa [Value.ownBlock] using hne.2)) (by simpa [Value.ownBlock] using h.two)
theorem PMem.box0 (h : PMem w wx B g rb0 mb0 rb1 mb1 V0 V1 R S q0 q1) {b : Nat} {cs : Array Value} {T : TypeId} (hb : wx.heap[b]? = some (.cells cs T)) (hT : T ≠ 79) (hu : Upd wx.heap.size (fun k => k = rb0 ∨ k = mb0) wx w2) : w2.heap[b]? = some (.cells cs T) := by
  obtain ⟨D, r⟩ := h.r0
  have hne := r.cells_ne hb hT
  exact blk_upd hb hu (blk_lt hb) (by rintro (e | e); exact hne.1 e; exact hne.2 e)
theorem PMem.box1 (h : PMem w wx B g rb0 mb0 rb1 mb1 V0 V1 R S q0 q1) {b : Nat} {cs : Array Value} {T : TypeId} (hb : wx.heap[b]? = some (.cells cs T)) (hT : T ≠ 79) (hu : Upd wx.heap.size (fun k => k = rb1 ∨ k = mb1) wx w2) : w2.heap[b]? = some (.cells cs T) := by
  obtain ⟨D, r⟩ := h.r1
  have hne := r.cells_ne hb hT
  exact blk_upd hb hu (blk_lt hb) (by rintro (e | e); exact hne.1 e; exact hne.2 e)
theorem sbox_upd0 {b : Nat} {ek dk : Int} (h : PMem w wx B g rb0 mb0 rb1 mb1 V0 V1 R S q0 q1 ∧ wx.heap[b]? = some (.cells #[.int .i64 ek, .int .i64 dk] 33)) (hu : Upd wx.drew.heap.size (fun k => k = rb0 ∨ k = mb0) wx.drew w2) : w2.heap[b]? = some (.cells #[.int .i64 ek, .int .i64 dk] 33) := h.1.box0 h.2 (by decide) hu.undrew
theorem sbox_upd1 {b : Nat} {ek dk : Int} (h : PMem w wx B g rb0 mb0 rb1 mb1 V0 V1 R S q0 q1 ∧ wx.heap[b]? = some (.cells #[.int .i64 ek, .int .i64 dk] 33)) (hu : Upd wx.drew.heap.size (fun k => k = rb1 ∨ k = mb1) wx.drew w2) : w2.heap[b]? = some (.cells #[.int .i64 ek, .int .i64 dk] 33) := h.1.box1 h.2 (by decide) hu.undrew
/-- Another block of the call's own is written. -/
theorem PMem.other (h : PMem w wx B g rb0 mb0 rb1 mb1 V0 V1 R S q0 q1) {b : Nat} {cs : Array Value} {T : TypeId} (hb : wx.heap[b]? = some (.cells cs T))
    (hT : T ≠ 79 ∧ T ≠ 9 ∧ T ≠ 38 ∧ T ≠ 24 ∧ T ≠ 25 ∧ T ≠ 27) (hB : B ≤ b) (hu : Upd wx.heap.size (fun k => k = b) wx w2) :
    PMem w w2 B g rb0 mb0 rb1 mb1 V0 V1 R S q0 q1 := by
  obtain ⟨D0, r0⟩ := h.r0
  obtain ⟨D1, r1⟩ := h.r1
  have hkind : ∀ k, k = b → ∃ cs T fz, wx.heap[k]? = some (.cells cs T fz) ∧ T ≠ 79 ∧ T ≠ 9 := by
    rintro k rfl
    exact ⟨_, _, _, hb, hT.1, hT.2.1⟩
  have hne : ∀ {j : Nat} {cs' : Array Value} {T' : TypeId}, wx.heap[j]? = some (.cells cs' T') → T ≠ T' → ¬ j = b := by
    rintro j cs' T' hj hTT rfl
    rw [hb] at hj
    simp at hj
    exact hTT hj.2
  exact {
    below := h.below.trans (Upd.below hu (fun k hk => by omega) (by have := blk_lt hb; omega))
    rs := blk_upd h.rs hu (blk_lt h.rs) (hne h.rs hT.2.2.2.1)
    ns := blk_upd h.ns hu (blk_lt h.ns) (hne h.ns hT.2.2.2.2.1)
    ws := blk_upd h.ws hu (blk_lt h.ws) (hne h.ws hT.2.2.2.2.2)
    r0 := ⟨D0, r0.upd2 hu hkind⟩
    r1 := ⟨D1, r1.upd2 hu hkind⟩
    s0 := h.s0.kept fun k hk => hu.block k (h.s0.lt k hk).2 (by obtain ⟨cur, hc⟩ := h.s0.block k hk; exact hne hc hT.2.2.1)
    s1 := h.s1.kept fun k hk => hu.block k (h.s1.lt k hk).2 (by obtain ⟨cur, hc⟩ := h.s1.block k hk; exact hne hc hT.2.2.1)
    base := h.base
    far := h.far
    two := h.two }
theorem PMem.heard (h : PMem w wx B g rb0 mb0 rb1 mb1 V0 V1 R S q0 q1) {b : Nat} {cs : Array Value} (hb : wx.heap[b]? = some (.cells cs 40)) (hB : B ≤ b) (x y z : Value) :
    PMem w (((wx.setCell ⟨b, 0, none⟩ x).setCell ⟨b, 1, none⟩ y).setCell ⟨b, 2, none⟩ z) B g rb0 mb0 rb1 mb1 V0 V1 R S q0 q1 :=
  h.other hb (by decide) hB (Upd.setCell (ks := fun k => k = b) (Upd.setCell (ks := fun k => k = b) (Upd.setCell (ks := fun k => k = b) (Upd.refl _ _ _) (a := (⟨b, 0, none⟩ : Addr)) (.inl rfl) x) (a := (⟨b, 1, none⟩ : Addr)) (.inl rfl) y) (a := (⟨b, 2, none⟩ : Addr)) (.inl rfl) z)
theorem below_drew0 (w : World) : Below w.heap.size w w.drew := ⟨rfl, rfl, rfl, Nat.le_refl _, fun _ _ => rfl⟩
theorem below_alloc_drew (w : World) (o : Obj) : Below w.heap.size w (w.alloc o).drew := ((Below.refl _ _).alloc (Nat.le_refl _) o).trans ((below_drew0 _).mono (by simp))
end

theorem letterInfo : (Tryd.prog.info? 38).map (fun i => (i.zero, i.size, i.bytes)) = some (some (.agg #[.int .i64 0, .int .u64 0]), 2, 16) := by kernel_rfl

theorem cut_letter (gq oq n c o2 : Nat) (h : o2 = if 1 = c then oq else oq + 1 * 2) (w : World) :
    (Instr.slice 26 (.slice (some ⟨gq, oq, none⟩) (n + 1) c) (some (.int .i64 1)) none none).run Tryd.prog w = .ok (.slice (some ⟨gq, o2, none⟩) n (c - 1)) w := by
  have hs : ∀ w, (sizeOf (Tryd.prog.elem 26)).run Tryd.prog w = .ok 2 w := fun _ => by kernel_rfl
  rw [run_slice_l w 26 _ _ _ (by kernel_rfl) .i64 1 (by decide) (by omega), hs]
  subst h
  by_cases hc : 1 = c
  · subst hc
    simp [Result.andThen, sliced]
  · have hc' : ¬ c = 1 := fun e => hc e.symm
    simp [Result.andThen, sliced, hc, hc', Addr.add_lit]

/-- The steps as they lie in memory. -/
structure Steps (w : World) (A : Option Addr) (L : Nat) (E D : Nat → Int) : Prop where
  at_ : 0 < L → ∃ ab ao, A = some ⟨ab, ao, none⟩ ∧ ab < w.heap.size ∧ ∀ i, i < L → w.cell? ⟨ab, ao + i * 2, none⟩ = some (.int .i64 (E i)) ∧ w.cell? ⟨ab, ao + i * 2 + 1, none⟩ = some (.int .i64 (D i))

/-- The state at the head of each of the law's rounds. -/
def PRel (w : World) (L : Nat) (g : Nat) (s : Value) (wr : World) : Prop :=
  ∃ (k rb0 mb0 rb1 mb1 : Nat) (V0 V1 : Value) (R S : RS) (q0 q1 : List (Int × Int)), s = .int .i64 k ∧ PMem w wr w.heap.size w.heap.size rb0 mb0 rb1 mb1 V0 V1 R S q0 q1 ∧ PairInv R S textbob nameAnn q0 q1 ∧
    (g = 6 * (min L 150 - k) + 2 * (wt q0 + wt q1) + (if (if k % 2 = 0 then q0 else q1) = [] then 1 else 0) ∧ k + g ≤ 901) ∧ (R.next ≤ k ∧ S.next ≤ k ∧ 0 ≤ R.ver ∧ R.ver ≤ k ∧ 0 ≤ S.ver ∧ S.ver ≤ k)

end Go.Proofs.YthbjcihdlhkboaaDoor
