/- The memory of RosterBounds' law. -/
import Derived.Test.YthbjcihdlhkboaaGreatDoorRi9
namespace Go.Proofs.YthbjcihdlhkboaaGreatDoor
set_option linter.unusedSimpArgs false
set_option linter.unusedVariables false
open Go.RowKit Go.Maps Go.Shelf Go.Lib

/-- One call. -/
structure OpD where
  act : Int
  contact : ByteArray
  name : ByteArray
  gv : Value
  groups : List ByteArray
  kind : Int
  n : Int
abbrev OpD.cells (o : OpD) : Array Value := #[.int .i64 o.act, .string o.contact, .string o.name, o.gv, .int .i64 o.kind, .int .u64 o.n]
/-- The calls, as they lie in memory. -/
structure OpsAt (w : World) (A : Option Addr) (L : Nat) (E : Nat → OpD) : Prop where
  at_ : 0 < L → ∃ b off, A = some ⟨b, off, none⟩ ∧ b < w.heap.size ∧ ∀ i, i < L → (∀ j, j < 6 → w.cell? ⟨b, off + i * 6 + j, none⟩ = (E i).cells[j]?) ∧ Strs w (E i).gv (E i).groups ∧ (E i).contact.size ≤ 9223372036854775807 ∧ (E i).name.size ≤ 9223372036854775807 ∧ 0 ≤ (E i).n ∧ (E i).n < 18446744073709551616

structure BMem (w wx : World) (rb mb : Nat) (R : RS) (k : Nat) : Prop where
  below : Below w.heap.size w wx
  ro : ∃ D, RoAt wx w.heap.size rb mb R.list.length D R
  inv : RInv R
  ver : 0 ≤ R.ver ∧ R.ver ≤ k
  next : 0 ≤ R.next ∧ R.next ≤ k
  len : R.list.length ≤ k

theorem RoAtK.tightK {w : World} {B rb mb n : Nat} {D : DataW Value} {R : RS} {kc : Int} (h : RoAtK w B rb mb n D R kc) : RoAtK w B rb mb R.list.length D R kc :=
  have hown : w.ownsMap Tryz.prog 9 tokR mb R.list.length D := by
    have hs := h.size
    obtain ⟨es, clock, hb, F, _, hD⟩ := h.own
    refine ⟨es, clock, hb, F, ?_, hD⟩
    rw [← hs, hD]
    simp [Maps.size, length_sorted]
  { h with own := hown }

theorem RInv.key_le {R : RS} {w : World} {B rb mb n : Nat} {D : DataW Value} {kc : Int} (h : RoAtK w B rb mb n D R kc) : ∀ s, (R.get s).isSome = true → s.size ≤ maxLen := by
  intro s hs
  have hm := RS.mem_list.1 hs
  obtain ⟨p, hp, rfl⟩ := List.mem_map.1 hm
  have := strKeys_le h.own Tryz.underlying9 (bl p.1) (h.keys.mem_iff.1 (List.mem_map.2 ⟨p, hp, rfl⟩))
  simpa using this

section
variable {w wx w2 : World} {rb mb k : Nat} {R R' : RS}

theorem BMem.call (h : BMem w wx rb mb R k) (hb : Below wx.heap.size wx w2) : BMem w w2 rb mb R k :=
  { h with
    below := h.below.trans (hb.mono h.below.size)
    ro := let ⟨D, r⟩ := h.ro; ⟨D, r.below hb⟩ }
theorem BMem.told (h : BMem w wx rb mb R k) {n : Nat} {d : Bool} (hr : AnyRo wx w2 w.heap.size rb mb n R') (hu : Upd wx.heap.size (fun j => j = rb ∨ j = mb) wx w2) (ht : Told R R' d) : BMem w w2 rb mb R' (k + 1) := by
  obtain ⟨D0, r0⟩ := h.ro
  obtain ⟨n', D', _, r'⟩ := hr
  have lo := r0.lo
  have hlt := r0.lt
  exact {
    below := ⟨hu.os.trans h.below.os, hu.tape.trans h.below.tape, hu.output.trans h.below.output, Nat.le_trans h.below.size hu.size, fun j hj => (hu.block j (by omega) (by rintro (e | e) <;> omega)).trans (h.below.block j hj)⟩
    ro := ⟨D', r'.tightK⟩
    inv := ht.inv
    ver := by have := h.ver; have := ht.one; omega
    next := by have := h.next; have := ht.next; omega
    len := by have := h.len; have := ht.grow; omega }
theorem BMem.up (h : BMem w wx rb mb R k) : BMem w wx rb mb R (k + 1) := { h with ver := by have := h.ver; omega, next := by have := h.next; omega, len := by have := h.len; omega }
theorem BMem.keys (h : BMem w wx rb mb R k) : ∀ s, (R.get s).isSome = true → s.size ≤ maxLen := let ⟨_, r⟩ := h.ro; RInv.key_le r

/-- Entries stand where the roster is turned. -/
theorem Ents.ro {B : Nat} {v : Value} {l : List Ent} (h : Ents wx B v l) (hm : BMem w wx rb mb R k) (hu : Upd wx.heap.size (fun j => j = rb ∨ j = mb) wx w2) : Ents w2 B v l := by
  obtain ⟨D, r⟩ := hm.ro
  have hne : ∀ {j : Nat} {cs : Array Value} {T : TypeId}, wx.heap[j]? = some (.cells cs T) → T ≠ 111 → ¬ (j = rb ∨ j = mb) := by
    intro j cs T hj hT e
    rcases e with e | e
    · subst e; rw [r.cells] at hj; simp at hj; exact hT hj.2.symm
    · obtain ⟨es, clock, hb, _⟩ := r.own
      subst e; rw [hb] at hj; cases hj
  obtain ⟨es, e1, e2, e3⟩ := h
  refine ⟨es, e1, e2.kept fun j hj => ?_, fun p hp => (e3 p hp).kept fun j cur hc _ => hu.block j (blk_lt hc) (hne hc (by decide))⟩
  obtain ⟨cur, hc⟩ := e2.block j hj
  exact hu.block j (blk_lt hc) (hne hc (by decide))
theorem BMem.box (h : BMem w wx rb mb R k) {b : Nat} {cs : Array Value} {T : TypeId} (hb : wx.heap[b]? = some (.cells cs T)) (hT : T ≠ 111) (hu : Upd wx.heap.size (fun j => j = rb ∨ j = mb) wx w2) : w2.heap[b]? = some (.cells cs T) := by
  obtain ⟨D, r⟩ := h.ro
  refine blk_upd hb hu (blk_lt hb) (fun e => ?_)
  rcases e with e | e
  · subst e; rw [r.cells] at hb; simp at hb; exact hT hb.2.symm
  · obtain ⟨es, clock, hb2, _⟩ := r.own
    subst e; rw [hb2] at hb; cases hb
end

/-- Told of a call that reads a text ahead of it: p: the text, c: the call. -/
structure OneSt (w w4 wx : World) (rb mb k : Nat) (R R' : RS) (t : ByteArray) (p c : Nat) (rs : Nat → Option Value) : Prop where
  upd : Upd w4.heap.size (fun j => j = rb ∨ j = mb) w4 wx
  mem : rs c = none → BMem w wx rb mb R k
  txt : ∀ u, rs p = some u → u = .string t
  post : ∀ u, rs c = some u → BMem w wx rb mb R' (k + 1)

/-- Told of Put's region. -/
structure PutSt (w w4 wx : World) (rb mb k : Nat) (R : RS) (s l : ByteArray) (gs : List ByteArray) (X : RS × Ent × Int) (rs : Nat → Option Value) : Prop where
  upd : Upd w4.heap.size (fun j => j = rb ∨ j = mb) w4 wx
  mem : rs 10 = none → BMem w wx rb mb R k
  t3 : ∀ u, rs 3 = some u → u = .string s
  t6 : ∀ u, rs 6 = some u → u = .string l
  t9 : ∀ u, rs 9 = some u → ∃ A c, u = .slice A gs.length c ∧ (rs 10 = none → Strs wx u gs)
  al : ∀ u, rs 14 = some u → ∃ b, u = .pointer (some ⟨b, 0, none⟩) ∧ w4.heap.size ≤ b ∧ ∃ x0 x1 x2 x3 x4 x5 x6 x7, wx.heap[b]? = some (.cells #[x0, x1, x2, x3, x4, x5, x6, x7] 54)
  post : ∀ u, rs 10 = some u → ∃ A c, u = .tuple #[X.2.1.val (.slice A X.2.1.groups.length c), .int .i64 X.2.2] ∧ BMem w wx rb mb X.1 (k + 1)

theorem BMem.set {w wx : World} {rb mb k b : Nat} {R : RS} {cs : Array Value} {T : TypeId} (h : BMem w wx rb mb R k) (hb : wx.heap[b]? = some (.cells cs T)) (hT : T ≠ 111) (hS : T ≠ 9) (hw : w.heap.size ≤ b) (j : Nat) (u : Value) : BMem w (wx.setCell ⟨b, j, none⟩ u) rb mb R k := by
  obtain ⟨D, r⟩ := h.ro
  have hu : Upd wx.heap.size (fun j => j = b) wx (wx.setCell ⟨b, j, none⟩ u) := Upd.setCell (ks := fun j => j = b) (Upd.refl _ _ _) (a := (⟨b, j, none⟩ : Addr)) (.inl rfl) _
  exact { h with
    below := h.below.setCell hw _
    ro := ⟨D, RoAtK.upd r hu (Nat.le_refl _) (fun e => by
        subst e; rw [r.cells] at hb; simp at hb; exact hT hb.2.symm) (fun e => by
        obtain ⟨es, clock, hb2, _⟩ := r.own
        subst e; rw [hb2] at hb; cases hb) (fun q cur hq _ e => by
        subst e; rw [hq] at hb; simp at hb; exact hS hb.2.symm)⟩ }
theorem BMem.set8 {w wx : World} {rb mb k b : Nat} {R : RS} {x0 x1 x2 x3 x4 x5 x6 x7 : Value} (h : BMem w wx rb mb R k) (hb : wx.heap[b]? = some (.cells #[x0, x1, x2, x3, x4, x5, x6, x7] 54)) (hw : w.heap.size ≤ b) (y0 y1 y2 y3 y4 y5 y6 y7 : Value) :
    BMem w ((((((((wx.setCell ⟨b, 0, none⟩ y0).setCell ⟨b, 1, none⟩ y1).setCell ⟨b, 2, none⟩ y2).setCell ⟨b, 3, none⟩ y3).setCell ⟨b, 4, none⟩ y4).setCell ⟨b, 5, none⟩ y5).setCell ⟨b, 6, none⟩ y6).setCell ⟨b, 7, none⟩ y7) rb mb R k := by
  have h0 := h.set hb (by decide) (by decide) hw 0 y0
  have b0 := blk_set_same hb 0 y0
  have h1 := h0.set b0 (by decide) (by decide) hw 1 y1
  have b1 := blk_set_same b0 1 y1
  have h2 := h1.set b1 (by decide) (by decide) hw 2 y2
  have b2 := blk_set_same b1 2 y2
  have h3 := h2.set b2 (by decide) (by decide) hw 3 y3
  have b3 := blk_set_same b2 3 y3
  have h4 := h3.set b3 (by decide) (by decide) hw 4 y4
  have b4 := blk_set_same b3 4 y4
  have h5 := h4.set b4 (by decide) (by decide) hw 5 y5
  have b5 := blk_set_same b4 5 y5
  have h6 := h5.set b5 (by decide) (by decide) hw 6 y6
  have b6 := blk_set_same b5 6 y6
  exact h6.set b6 (by decide) (by decide) hw 7 y7

theorem AnyRo.back {w wx w' : World} {B rb mb n : Nat} {R : RS} (h : AnyRo wx w' B rb mb n R) : AnyRo w w' B rb mb n R := h

end Go.Proofs.YthbjcihdlhkboaaGreatDoor
