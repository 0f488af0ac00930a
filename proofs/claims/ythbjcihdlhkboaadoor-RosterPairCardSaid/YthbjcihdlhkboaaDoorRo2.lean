/- A roster in memory: what it holds, and what a change of it leaves. -/
import Derived.Test.YthbjcihdlhkboaaDoorRo1
import Derived.Test.YthbjcihdlhkboaaDoorUpd
import Derived.Test.YthbjcihdlhkboaaDoorSu2
import Derived.Test.YthbjcihdlhkboaaDoorMapV
import Derived.Test.YthbjcihdlhkboaaDoorLs4
import Derived.Test.YthbjcihdlhkboaaDoorStep
import Derived.Test.YthbjcihdlhkboaaDoorTx2
namespace Go.Proofs.YthbjcihdlhkboaaDoor
set_option linter.unusedSimpArgs false
set_option linter.unusedVariables false
open Go.RowKit Go.Maps Go.Shelf Go.Lib

/-- An entry of a roster. -/
structure Ent where
  contact : ByteArray
  kept : Bool
  name : ByteArray
  groups : List ByteArray
  half : Half
abbrev Ent.val (e : Ent) (g : Value) : Value := .agg #[.string e.contact, .bool e.kept, .string e.name, g, .int .i64 e.half.o, .int .u64 e.half.n, .int .i64 e.half.i, .int .u64 e.half.m]
def Ent.new (s : ByteArray) : Ent := ⟨s, false, ⟨#[]⟩, [], ⟨0, 0, 0, 0⟩⟩

/-- The groups of an entry, in memory that is the roster's own. -/
def Grp (w : World) (B : Nat) (v : Value) (gs : List ByteArray) : Prop :=
  (gs = [] ∧ ∃ A c, v = .slice A 0 c) ∨ (gs ≠ [] ∧ Seq w B 9 1 v gs.length (flatS gs))

theorem Grp.nil (w : World) (B : Nat) : Grp w B (.slice none 0 0) [] := .inl ⟨rfl, none, 0, rfl⟩
theorem Grp.strs {w : World} {B : Nat} {v : Value} {gs : List ByteArray} (h : Grp w B v gs) : Strs w v gs := by
  rcases h with ⟨rfl, A, c, rfl⟩ | ⟨_, h⟩
  · exact ⟨⟨A, c, rfl, fun h => absurd h (by decide)⟩, by decide⟩
  · exact strs_of_seq h (by have := h.len_le; unfold maxLen at this; omega)
theorem Grp.kept {w w' : World} {B : Nat} {v : Value} {gs : List ByteArray} (h : Grp w B v gs) (hk : ∀ k cur, w.heap[k]? = some (.cells cur 9 (0, 0)) → B ≤ k → w'.heap[k]? = w.heap[k]?) : Grp w' B v gs := by
  rcases h with h | ⟨hn, h⟩
  · exact .inl h
  · exact .inr ⟨hn, h.kept fun k hb => by obtain ⟨cur, hc⟩ := h.block k hb; exact hk k cur hc (h.lt k hb).1⟩
theorem Grp.lower {w : World} {B B' : Nat} {v : Value} {gs : List ByteArray} (h : Grp w B v gs) (hB : B' ≤ B) : Grp w B' v gs := by
  rcases h with h | ⟨hn, h⟩
  · exact .inl h
  · exact .inr ⟨hn, Seq.lower h hB⟩
theorem Grp.shape {w : World} {B : Nat} {v : Value} {gs : List ByteArray} (h : Grp w B v gs) : ∃ A c, v = .slice A gs.length c := by
  rcases h with ⟨rfl, h⟩ | ⟨_, h⟩
  · exact h
  · exact h.shape

/-- A roster: the bounds, the counts, the entries. -/
structure RS where
  items : Int
  asks : Int
  ver : Int
  next : Int
  list : List (ByteArray × Ent)

def RS.get (R : RS) (s : ByteArray) : Option Ent := (R.list.find? (fun p => decide (p.1 = s))).map (·.2)
def RS.entry (R : RS) (s : ByteArray) : Ent := (R.get s).getD (Ent.new s)
def RS.put (R : RS) (s : ByteArray) (e : Ent) : RS := { R with list := (s, e) :: R.list.filter (fun p => !decide (p.1 = s)) }
def RS.del (R : RS) (s : ByteArray) : RS := { R with list := R.list.filter (fun p => !decide (p.1 = s)) }
def RS.kept (R : RS) : Nat := (R.list.filter (fun p => p.2.kept)).length
def RS.wasKept (R : RS) (s : ByteArray) : Bool := ((R.get s).map (·.kept)).getD false
/-- An entry is laid; it is gone, if there is nothing of it. -/
def RS.set (R : RS) (e : Ent) : RS := if e.kept || !(e.half.i == 0) then R.put e.contact e else R.del e.contact

theorem RS.get_put_same (R : RS) (s : ByteArray) (e : Ent) : (R.put s e).get s = some e := by simp [RS.get, RS.put]
theorem RS.get_put_other (R : RS) {s t : ByteArray} (e : Ent) (hne : t ≠ s) : (R.put s e).get t = R.get t := by
  unfold RS.get RS.put
  simp only
  rw [List.find?_cons_of_neg (by simpa using fun e => hne e.symm)]
  congr 1
  rw [List.find?_filter]
  congr 1
  funext p
  by_cases h : p.1 = t
  · simp [h, hne]
  · simp [h]
theorem RS.get_del_same (R : RS) (s : ByteArray) : (R.del s).get s = none := by
  unfold RS.get RS.del
  simp only [Option.map_eq_none_iff, List.find?_eq_none]
  intro p hp
  have := (List.mem_filter.1 hp).2
  simpa using this
theorem RS.get_del_other (R : RS) {s t : ByteArray} (hne : t ≠ s) : (R.del s).get t = R.get t := by
  unfold RS.get RS.del
  simp only
  congr 1
  rw [List.find?_filter]
  congr 1
  funext p
  by_cases h : p.1 = t
  · simp [h, hne]
  · simp [h]
theorem RS.get_isSome (R : RS) (s : ByteArray) : (R.get s).isSome = R.list.any (fun p => decide (p.1 = s)) := by
  unfold RS.get
  rw [Option.isSome_map]
  rw [Bool.eq_iff_iff, List.find?_isSome, List.any_eq_true]

theorem kept_cons (p : ByteArray × Ent) (ps : List (ByteArray × Ent)) : ((p :: ps).filter (fun p => p.2.kept)).length = (ps.filter (fun p => p.2.kept)).length + (if p.2.kept then 1 else 0) := by
  by_cases h : p.2.kept = true <;> simp [List.filter_cons, h]

/-- How many of a list satisfy, and how many of those that are another's. -/
theorem filter_kept {l : List (ByteArray × Ent)} (h : (l.map (·.1)).Nodup) (s : ByteArray) :
    ((l.filter (fun p => !decide (p.1 = s))).filter (fun p => p.2.kept)).length + (if ((l.find? (fun p => decide (p.1 = s))).map (fun p => p.2.kept)).getD false then 1 else 0) = (l.filter (fun p => p.2.kept)).length ∧
    (l.filter (fun p => !decide (p.1 = s))).length + (if l.any (fun p => decide (p.1 = s)) then 1 else 0) = l.length := by
  induction l with
  | nil => exact ⟨rfl, rfl⟩
  | cons p ps ih =>
    simp only [List.map_cons, List.nodup_cons] at h
    obtain ⟨ih1, ih2⟩ := ih h.2
    by_cases e : p.1 = s
    · have hn : ∀ q ∈ ps, decide (q.1 = s) = false := by
        intro q hq
        simp only [decide_eq_false_iff_not]
        intro e2
        exact h.1 (List.mem_map.2 ⟨q, hq, e2.trans e.symm⟩)
      have hf : ps.filter (fun p => !decide (p.1 = s)) = ps := List.filter_eq_self.2 fun q hq => by simp only [hn q hq, Bool.not_false]
      have hd : decide (p.1 = s) = true := by simpa using e
      have hfind : (p :: ps).find? (fun p => decide (p.1 = s)) = some p := by rw [List.find?_cons]; simp [e]
      rw [List.filter_cons_of_neg (by simp [e]), hf, hfind, List.any_cons, hd]
      simp only [Option.map_some, Option.getD_some, Bool.true_or, if_true, List.length_cons]
      refine ⟨?_, trivial⟩
      rw [kept_cons]
    · have ed : decide (p.1 = s) = false := by simpa using e
      rw [List.filter_cons_of_pos (by simp [e]), List.any_cons, ed, Bool.false_or, List.length_cons, List.length_cons, List.find?_cons_of_neg (by simp [e])]
      refine ⟨?_, by omega⟩
      rw [kept_cons, kept_cons]
      generalize (if p.2.kept = true then 1 else 0) = q
      omega

theorem RS.put_count {R : RS} (h : (R.list.map (·.1)).Nodup) (s : ByteArray) (e : Ent) :
    (R.put s e).kept + (if R.wasKept s then 1 else 0) = R.kept + (if e.kept then 1 else 0) ∧ (R.put s e).list.length = (if (R.get s).isSome then R.list.length else R.list.length + 1) := by
  have hf := filter_kept h s
  have hw : R.wasKept s = ((R.list.find? (fun p => decide (p.1 = s))).map (fun p => p.2.kept)).getD false := by
    unfold RS.wasKept RS.get
    rw [Option.map_map]
    rfl
  rw [hw, RS.get_isSome]
  have e1 : (R.put s e).kept = ((R.list.filter (fun p => !decide (p.1 = s))).filter (fun p => p.2.kept)).length + (if e.kept then 1 else 0) := by
    unfold RS.kept RS.put
    simp only
    rw [kept_cons]
  have e2 : (R.put s e).list.length = (R.list.filter (fun p => !decide (p.1 = s))).length + 1 := rfl
  rw [e1, e2]
  have e3 : R.kept = (R.list.filter (fun p => p.2.kept)).length := rfl
  rw [e3]
  generalize (if e.kept = true then 1 else 0) = q
  obtain ⟨f1, f2⟩ := hf
  refine ⟨by omega, ?_⟩
  cases hb : R.list.any (fun p => decide (p.1 = s))
  · rw [hb] at f2; simp only [Bool.false_eq_true, if_false] at f2 ⊢; omega
  · rw [hb] at f2; simp only [if_true] at f2 ⊢; omega

theorem RS.del_count {R : RS} (h : (R.list.map (·.1)).Nodup) (s : ByteArray) :
    (R.del s).kept + (if R.wasKept s then 1 else 0) = R.kept ∧ (R.del s).list.length + (if (R.get s).isSome then 1 else 0) = R.list.length := by
  have hf := filter_kept h s
  have hw : R.wasKept s = ((R.list.find? (fun p => decide (p.1 = s))).map (fun p => p.2.kept)).getD false := by
    unfold RS.wasKept RS.get
    rw [Option.map_map]
    rfl
  rw [hw, RS.get_isSome]
  exact hf

theorem RS.nodup_put {R : RS} (h : (R.list.map (·.1)).Nodup) (s : ByteArray) (e : Ent) : ((R.put s e).list.map (·.1)).Nodup := by
  show (s :: (R.list.filter _).map (·.1)).Nodup
  rw [List.nodup_cons]
  refine ⟨fun hm => ?_, (List.Sublist.map _ List.filter_sublist).nodup h⟩
  obtain ⟨p, hp, e⟩ := List.mem_map.1 hm
  have := (List.mem_filter.1 hp).2
  simp [e] at this
theorem RS.nodup_del {R : RS} (h : (R.list.map (·.1)).Nodup) (s : ByteArray) : ((R.del s).list.map (·.1)).Nodup := (List.Sublist.map _ List.filter_sublist).nodup h
theorem RS.kept_le (R : RS) : R.kept ≤ R.list.length := List.length_filter_le _ _
theorem RS.wasKept_le {R : RS} (s : ByteArray) : (if R.wasKept s then 1 else 0) ≤ R.kept := by
  cases hb : R.wasKept s
  · simp
  · simp only [if_true]
    unfold RS.wasKept RS.get at hb
    cases hf : R.list.find? (fun p => decide (p.1 = s)) with
    | none => rw [hf] at hb; simp at hb
    | some p =>
      rw [hf] at hb
      exact List.length_pos_of_mem (List.mem_filter.2 ⟨List.mem_of_find?_eq_some hf, by simpa using hb⟩)

/-- A roster as it lies in memory; kc: what its field 'kept' holds. -/
structure RoAtK (w : World) (B rb mb n : Nat) (D : DataW Value) (R : RS) (kc : Int) : Prop where
  cells : w.heap[rb]? = some (.cells #[.int .i64 R.items, .int .i64 R.asks, .int .u64 R.ver, .int .u64 R.next, .map (some mb), .int .i64 kc] 79)
  own : w.ownsMap Tryd.prog 9 tokR mb n D
  ok : HasOk D
  size : Maps.size D = R.list.length
  lists : ∀ s, (mget D s = none ∧ R.get s = none) ∨ ∃ g e, mget D s = some (e.val g) ∧ R.get s = some e ∧ (e.contact = s ∧ e.groups.length ≤ 1000000) ∧ Grp w B g e.groups
  lo : B ≤ rb ∧ B ≤ mb
  apart : (R.list.map (·.1)).Nodup
abbrev RoAt (w : World) (B rb mb n : Nat) (D : DataW Value) (R : RS) : Prop := RoAtK w B rb mb n D R (R.kept : Nat)

section
variable {w w' : World} {B rb mb n : Nat} {D : DataW Value} {R : RS} {kc : Int}

theorem RoAtK.ne (h : RoAtK w B rb mb n D R kc) : rb ≠ mb := by
  intro e
  obtain ⟨es, clock, hb, _⟩ := h.own
  rw [← e, h.cells] at hb
  cases hb
theorem RoAtK.lt (h : RoAtK w B rb mb n D R kc) : rb < w.heap.size ∧ mb < w.heap.size := by
  obtain ⟨es, clock, hb, _⟩ := h.own
  exact ⟨blk_lt h.cells, blk_lt hb⟩
theorem RoAtK.isSome (h : RoAtK w B rb mb n D R kc) (s : ByteArray) : (mget D s).isSome = (R.get s).isSome := by
  rcases h.lists s with ⟨a, b⟩ | ⟨g, e, a, b, _⟩ <;> rw [a, b] <;> rfl

/-- A roster stands where its blocks and those of texts stand. -/
theorem RoAtK.keep (h : RoAtK w B rb mb n D R kc) (h1 : w'.heap[rb]? = w.heap[rb]?) (h2 : w'.heap[mb]? = w.heap[mb]?) (h3 : ∀ k cur, w.heap[k]? = some (.cells cur 9 (0, 0)) → B ≤ k → w'.heap[k]? = w.heap[k]?)
    (hs : w.heap.size ≤ w'.heap.size) (ho : w'.os = w.os) (ht : w'.tape = w.tape) (hp : w'.output = w.output) : RoAtK w' B rb mb n D R kc where
  cells := h1.trans h.cells
  own := by
    obtain ⟨es, clock, hb, rest⟩ := h.own
    exact ⟨es, clock, h2.trans hb, rest⟩
  ok := h.ok
  size := h.size
  lists := fun s => by
    rcases h.lists s with hn | ⟨g, e, a, b, c, d⟩
    · exact .inl hn
    · exact .inr ⟨g, e, a, b, c, d.kept h3⟩
  lo := h.lo
  apart := h.apart
theorem RoAtK.below (h : RoAtK w B rb mb n D R kc) (hb : Below w.heap.size w w') : RoAtK w' B rb mb n D R kc :=
  h.keep (hb.block _ h.lt.1) (hb.block _ h.lt.2) (fun k cur hk _ => hb.block k (blk_lt hk)) hb.size hb.os hb.tape hb.output
theorem RoAtK.upd (h : RoAtK w B rb mb n D R kc) {C : Nat} {ks : Nat → Prop} (hu : Upd C ks w w') (hC : w.heap.size ≤ C) (h1 : ¬ ks rb) (h2 : ¬ ks mb) (h3 : ∀ k cur, w.heap[k]? = some (.cells cur 9 (0, 0)) → B ≤ k → ¬ ks k) : RoAtK w' B rb mb n D R kc :=
  h.keep (hu.block _ (by have := h.lt.1; omega) h1) (hu.block _ (by have := h.lt.2; omega) h2) (fun k cur hk hB => hu.block k (by have := blk_lt hk; omega) (h3 k cur hk hB)) hu.size hu.os hu.tape hu.output

/-- A field of whole numbers is written. -/
theorem RoAtK.field (h : RoAtK w B rb mb n D R kc) (j : Nat) (v : Value) {R' : RS} {kc' : Int} (hl : R'.list = R.list)
    (hc : (#[.int .i64 R.items, .int .i64 R.asks, .int .u64 R.ver, .int .u64 R.next, .map (some mb), .int .i64 kc] : Array Value).setIfInBounds j v = #[.int .i64 R'.items, .int .i64 R'.asks, .int .u64 R'.ver, .int .u64 R'.next, .map (some mb), .int .i64 kc']) :
    RoAtK (w.setCell ⟨rb, j, none⟩ v) B rb mb n D R' kc' where
  cells := by rw [← hc]; exact blk_set_same h.cells j v
  own := by
    obtain ⟨es, clock, hb, rest⟩ := h.own
    exact ⟨es, clock, (Below.heap_setCell w ⟨rb, j, none⟩ v mb (fun e => h.ne e.symm)).trans hb, rest⟩
  ok := h.ok
  size := by rw [hl]; exact h.size
  lists := fun s => by
    have hg : R'.get s = R.get s := by unfold RS.get; rw [hl]
    rw [hg]
    rcases h.lists s with hn | ⟨g, e, a, b, c, d⟩
    · exact .inl hn
    · exact .inr ⟨g, e, a, b, c, d.kept fun k cur hk _ => Below.heap_setCell w ⟨rb, j, none⟩ v k (by
        rintro rfl
        have h0 := h.cells
        rw [hk] at h0
        simp at h0)⟩
  lo := h.lo
  apart := by rw [hl]; exact h.apart

theorem str_ne_map {k : Nat} {cur : Array Value} (h : RoAtK w B rb mb n D R kc) (hk : w.heap[k]? = some (.cells cur 9 (0, 0))) : k ≠ mb := by
  intro e
  obtain ⟨es, clock, hb, _⟩ := h.own
  rw [← e, hk] at hb
  cases hb

/-- The roster behind a store into its map. -/
theorem RoAtK.store {n' : Nat} (h : RoAtK w B rb mb n D R kc) {s : ByteArray} {e : Ent} {g : Value} {kc' : Int} (hs : e.contact = s ∧ e.groups.length ≤ 1000000) (hg : Grp w B g e.groups)
    (hown : w'.ownsMap Tryd.prog 9 tokR mb n' (D.put (keyL s) (.held (e.val g)))) (hgr : w.grownBy w' (some mb)) : RoAtK w' B rb mb n' (D.put (keyL s) (.held (e.val g))) (R.put s e) kc := by
  have hk : ∀ k cur, w.heap[k]? = some (.cells cur 9 (0, 0)) → B ≤ k → w'.heap[k]? = w.heap[k]? :=
    fun k cur hc _ => hgr.block k (blk_lt hc) (by simpa using str_ne_map h hc)
  exact {
    cells := (hgr.block rb h.lt.1 (by simpa using h.ne)).trans h.cells
    own := hown
    ok := h.ok.put s _
    size := by rw [size_put (h.own.tidy (string_keyed Tryd.underlying9)), h.ok.2 s, h.isSome, (RS.put_count h.apart s e).2, h.size]
    lists := fun t => by
      by_cases e1 : t = s
      · subst e1
        exact .inr ⟨g, e, mget_put_same h.ok.1 t _, RS.get_put_same R t e, hs, hg.kept hk⟩
      · rw [mget_put_other e1, RS.get_put_other R e e1]
        rcases h.lists t with hn | ⟨u, q, a, b, c, d⟩
        · exact .inl hn
        · exact .inr ⟨u, q, a, b, c, d.kept hk⟩
    lo := h.lo
    apart := RS.nodup_put h.apart s e }

/-- The roster behind a deletion from its map. -/
theorem RoAtK.drop (h : RoAtK w B rb mb n D R kc) {s : ByteArray}
    (hown : w'.ownsMap Tryd.prog 9 tokR mb n (D.del (keyL s))) (hgr : w.grownBy w' (some mb)) : RoAtK w' B rb mb n (D.del (keyL s)) (R.del s) kc := by
  have hk : ∀ k cur, w.heap[k]? = some (.cells cur 9 (0, 0)) → B ≤ k → w'.heap[k]? = w.heap[k]? :=
    fun k cur hc _ => hgr.block k (blk_lt hc) (by simpa using str_ne_map h hc)
  exact {
    cells := (hgr.block rb h.lt.1 (by simpa using h.ne)).trans h.cells
    own := hown
    ok := h.ok.del s
    size := by
      have e1 := (RS.del_count h.apart s).2
      have e2 := size_del (k := keyL s) (h.own.tidy (string_keyed Tryd.underlying9))
      rw [h.ok.2 s, h.isSome, h.size] at e2
      cases hb : (R.get s).isSome <;> rw [hb] at e1 e2 <;> simp at e1 e2 <;> omega
    lists := fun t => by
      by_cases e1 : t = s
      · subst e1
        exact .inl ⟨mget_del_same t, RS.get_del_same R t⟩
      · rw [mget_del_other e1, RS.get_del_other R e1]
        rcases h.lists t with hn | ⟨u, q, a, b, c, d⟩
        · exact .inl hn
        · exact .inr ⟨u, q, a, b, c, d.kept hk⟩
    lo := h.lo
    apart := RS.nodup_del h.apart s }
end

end Go.Proofs.YthbjcihdlhkboaaDoor
