/- A roster by its bounds: what every call keeps; what is told of the items changes just where the count rises. -/
import Derived.Test.YthbjcihdlhkboaaGreatDoorRoa
import Derived.Lib.SlicesCompact
namespace Go.Proofs.YthbjcihdlhkboaaGreatDoor
set_option linter.unusedSimpArgs false
set_option linter.unusedVariables false
open Go.RowKit Go.Maps Go.Shelf Go.Lib

abbrev leB (x y : List UInt8) : Bool := decide (x ≤ y)
theorem leB_trans (a b c : List UInt8) (h1 : leB a b = true) (h2 : leB b c = true) : leB a c = true := by
  simp only [leB, decide_eq_true_eq] at *; exact List.le_trans h1 h2
theorem leB_total (a b : List UInt8) : (leB a b || leB b a) = true := by
  simp only [leB, Bool.or_eq_true, decide_eq_true_eq]; exact List.le_total a b
theorem leB_anti {a b : List UInt8} (h1 : leB a b = true) (h2 : leB b a = true) : a = b := by
  simp only [leB, decide_eq_true_eq] at *; exact List.le_antisymm h1 h2

theorem sort_perm {xs ys : List (List UInt8)} (h : xs.Perm ys) : xs.mergeSort leB = ys.mergeSort leB := by
  refine List.Perm.eq_of_pairwise (fun a b _ _ h1 h2 => leB_anti h1 h2) (List.pairwise_mergeSort leB_trans leB_total xs) (List.pairwise_mergeSort leB_trans leB_total ys) ?_
  exact ((List.mergeSort_perm xs leB).trans h).trans (List.mergeSort_perm ys leB).symm

/-- Two rising lists of the same texts, none twice, are one list. -/
theorem sorted_ext {xs ys : List (List UInt8)} (h1 : xs.Pairwise (fun a b => leB a b = true)) (h2 : ys.Pairwise (fun a b => leB a b = true)) (n1 : xs.Nodup) (n2 : ys.Nodup) (h : ∀ k, k ∈ xs ↔ k ∈ ys) : xs = ys :=
  List.Perm.eq_of_pairwise (fun a b _ _ h1 h2 => leB_anti h1 h2) h1 h2 ((List.perm_ext_iff_of_nodup n1 n2).2 h)

abbrev bl (s : ByteArray) : List UInt8 := s.data.toList
abbrev lb (l : List UInt8) : ByteArray := ⟨l.toArray⟩
theorem lb_bl (s : ByteArray) : lb (bl s) = s := by cases s; rfl
theorem bl_lb (l : List UInt8) : bl (lb l) = l := rfl
theorem bl_inj {s t : ByteArray} (h : bl s = bl t) : s = t := by rw [← lb_bl s, ← lb_bl t, h]

/-- The names of a roster, rising. -/
def RS.keys (R : RS) : List (List UInt8) := (R.list.map fun p => bl p.1).mergeSort leB
/-- The entries of which something holds, rising. -/
def RS.all (R : RS) (p : Ent → Bool) : List Ent := R.keys.filterMap fun k => (R.get (lb k)).filter p

theorem RS.mem_list {R : RS} {s : ByteArray} : (R.get s).isSome = true ↔ s ∈ R.list.map (·.1) := by
  rw [RS.get_isSome, List.any_eq_true]
  constructor
  · rintro ⟨p, hp, h⟩; exact List.mem_map.2 ⟨p, hp, by simpa using h⟩
  · intro h; obtain ⟨p, hp, h⟩ := List.mem_map.1 h; exact ⟨p, hp, by simpa using h⟩
theorem RS.mem_keys {R : RS} {k : List UInt8} : k ∈ R.keys ↔ (R.get (lb k)).isSome = true := by
  unfold RS.keys
  rw [List.mem_mergeSort, RS.mem_list]
  constructor
  · intro h
    obtain ⟨p, hp, h⟩ := List.mem_map.1 h
    exact List.mem_map.2 ⟨p, hp, by rw [← h, lb_bl]⟩
  · intro h
    obtain ⟨p, hp, h⟩ := List.mem_map.1 h
    exact List.mem_map.2 ⟨p, hp, by rw [h]⟩
theorem RS.keys_sorted (R : RS) : R.keys.Pairwise (fun a b => leB a b = true) := List.pairwise_mergeSort leB_trans leB_total _
theorem map_bl_nodup {l : List ByteArray} (h : l.Nodup) : (l.map bl).Nodup := by
  refine List.Pairwise.map bl (fun a b hab e => hab (bl_inj e)) h
theorem RS.keys_nodup {R : RS} (h : (R.list.map (·.1)).Nodup) : R.keys.Nodup := by
  unfold RS.keys
  rw [(List.mergeSort_perm _ leB).nodup_iff]
  have := map_bl_nodup h
  rwa [List.map_map] at this
theorem RS.mem_all {R : RS} {p : Ent → Bool} {e : Ent} : e ∈ R.all p ↔ (∃ s, R.get s = some e) ∧ p e = true := by
  unfold RS.all
  rw [List.mem_filterMap]
  constructor
  · rintro ⟨k, hk, h⟩
    obtain ⟨h1, h2⟩ := Option.filter_eq_some_iff.1 h
    exact ⟨⟨_, h1⟩, h2⟩
  · rintro ⟨⟨s, hs⟩, hp⟩
    exact ⟨bl s, RS.mem_keys.2 (by rw [lb_bl, hs]; rfl), Option.filter_eq_some_iff.2 ⟨by rw [lb_bl]; exact hs, hp⟩⟩

/-- The entries told hang on what the roster holds of which it holds. -/
theorem RS.all_congr {R R' : RS} {p : Ent → Bool} (h : (R.list.map (·.1)).Nodup) (h' : (R'.list.map (·.1)).Nodup) (he : ∀ s, (R.get s).filter p = (R'.get s).filter p) : R.all p = R'.all p := by
  have key : ∀ {Q : RS}, Q.all p = (Q.keys.filter fun k => ((Q.get (lb k)).filter p).isSome).filterMap fun k => (Q.get (lb k)).filter p := by
    intro Q
    unfold RS.all
    generalize Q.keys = ks
    induction ks with
    | nil => rfl
    | cons k ks ih =>
      rw [List.filterMap_cons, List.filter_cons]
      cases hf : (Q.get (lb k)).filter p with
      | none => simp [ih]
      | some e => simp [hf, ih]
  rw [key, key (Q := R')]
  have e1 : (R.keys.filter fun k => ((R.get (lb k)).filter p).isSome) = (R'.keys.filter fun k => ((R'.get (lb k)).filter p).isSome) := by
    refine sorted_ext (R.keys_sorted.filter _) (R'.keys_sorted.filter _) ((RS.keys_nodup h).filter _) ((RS.keys_nodup h').filter _) (fun k => ?_)
    rw [List.mem_filter, List.mem_filter, RS.mem_keys, RS.mem_keys, he]
    constructor
    · rintro ⟨_, h2⟩
      refine ⟨?_, h2⟩
      cases hg : R'.get (lb k) with
      | none => rw [hg] at h2; simp at h2
      | some e => rfl
    · rintro ⟨_, h2⟩
      refine ⟨?_, h2⟩
      rw [← he] at h2
      cases hg : R.get (lb k) with
      | none => rw [hg] at h2; simp at h2
      | some e => rfl
  rw [e1]
  congr 1
  funext k
  rw [he]

theorem RS.get_of_mem {R : RS} (h : (R.list.map (·.1)).Nodup) {p : ByteArray × Ent} (hp : p ∈ R.list) : R.get p.1 = some p.2 := by
  unfold RS.get
  generalize hl : R.list = l at *
  clear hl
  induction l with
  | nil => cases hp
  | cons q l ih =>
    rw [List.map_cons, List.nodup_cons] at h
    rw [List.find?_cons]
    by_cases e : q.1 = p.1
    · rcases List.mem_cons.1 hp with rfl | hm
      · simp
      · exact absurd (List.mem_map.2 ⟨p, hm, e.symm⟩) h.1
    · rcases List.mem_cons.1 hp with rfl | hm
      · exact absurd rfl e
      · simp only [e, decide_false]
        exact ih h.2 hm

theorem RS.all_length {R : RS} (h : (R.list.map (·.1)).Nodup) (p : Ent → Bool) : (R.all p).length = (R.list.filter (fun q => p q.2)).length := by
  unfold RS.all RS.keys
  have e1 : ((R.list.map fun p => bl p.1).mergeSort leB).filterMap (fun k => (R.get (lb k)).filter p) |>.Perm ((R.list.map fun p => bl p.1).filterMap (fun k => (R.get (lb k)).filter p)) := (List.mergeSort_perm _ leB).filterMap _
  rw [e1.length_eq, List.filterMap_map]
  have e2 : ∀ l : List (ByteArray × Ent), (∀ q ∈ l, q ∈ R.list) → (l.filterMap ((fun k => (R.get (lb k)).filter p) ∘ fun p => bl p.1)).length = (l.filter (fun q => p q.2)).length := by
    intro l
    induction l with
    | nil => intro _; rfl
    | cons q l ih =>
      intro hl
      have hq := RS.get_of_mem h (hl q (List.mem_cons_self ..))
      have ih' := ih (fun x hx => hl x (List.mem_cons_of_mem _ hx))
      rw [List.filterMap_cons, List.filter_cons]
      simp only [Function.comp, lb_bl, hq]
      have hf : (some q.2).filter p = if p q.2 = true then some q.2 else none := rfl
      rw [hf]
      cases hp : p q.2
      · simpa using ih'
      · simpa using ih'
  exact e2 R.list (fun q hq => hq)

theorem keysOf_perm {xs ys : List (List UInt8)} (h1 : xs.Nodup) (h2 : ys.Nodup) (h : ∀ k, k ∈ xs ↔ k ∈ ys) : xs.Perm ys := (List.perm_ext_iff_of_nodup h1 h2).2 h

/-- What a text is refused with. -/
def textE (s : ByteArray) : Int := if 64 < s.size then 5 else if validB s = false then 4 else 0
def groupsE : List ByteArray → Int
  | [] => 0
  | g :: gs => if textE g ≠ 0 then textE g else if g.size = 0 then 4 else groupsE gs
def wordsE (l : ByteArray) (gs : List ByteArray) : Int := if textE l ≠ 0 then textE l else if 8 < gs.length then 5 else groupsE gs
/-- Texts, rising, none twice. -/
def sortG (gs : List ByteArray) : List ByteArray := (Lib.compact ((gs.map bl).mergeSort leB)).map lb
def Ent.zero : Ent := ⟨⟨#[]⟩, false, ⟨#[]⟩, [], ⟨0, 0, 0, 0⟩⟩

def RS.putE (R : RS) (s l : ByteArray) (gs : List ByteArray) : Ent := { R.entry (localS s).1 with kept := true, name := l, groups := sortG gs }
def RS.putAll (R : RS) (s l : ByteArray) (gs : List ByteArray) : RS × Ent × Int :=
  if (localS s).2 ≠ 0 then (R, Ent.zero, (localS s).2)
  else if wordsE l gs ≠ 0 then (R, Ent.zero, wordsE l gs)
  else if (R.entry (localS s).1).kept = false ∧ ¬ (R.kept : Int) < R.items then (R, Ent.zero, 8)
  else ({ R.set (R.putE s l gs) with ver := R.ver + 1 }, R.putE s l gs, 0)
def RS.dropAll (R : RS) (s : ByteArray) : RS × Ent × Int :=
  if (localS s).2 ≠ 0 then (R, Ent.zero, (localS s).2)
  else if (R.entry (localS s).1).kept = false then (R, Ent.zero, 7)
  else ({ R.set (Ent.new (R.entry (localS s).1).contact) with ver := R.ver + 1 }, R.entry (localS s).1, 0)

/-- What holds of every roster that was begun empty. -/
structure RInv (R : RS) : Prop where
  apart : (R.list.map (·.1)).Nodup
  name : ∀ s e, R.get s = some e → e.contact = s
  items : (R.kept : Int) ≤ R.items
  asks : (R.list.length : Int) - R.kept ≤ R.asks

theorem RInv.new {x y : Int} (h1 : 0 ≤ x) (h2 : 0 ≤ y) : RInv (RS.new x y) := ⟨List.nodup_nil, fun s e h => by simp [RS.get] at h, by simpa [RS.kept] using h1, by simpa [RS.kept] using h2⟩

theorem RInv.entry {R : RS} (h : RInv R) (s : ByteArray) : (R.entry s).contact = s := by
  unfold RS.entry
  cases hg : R.get s with
  | none => rfl
  | some e => exact h.name s e hg
theorem RS.was_entry (R : RS) (s : ByteArray) : R.wasKept s = (R.entry s).kept := by
  unfold RS.wasKept RS.entry
  cases R.get s <;> rfl
theorem RInv.ver {R : RS} (h : RInv R) (v n : Int) : RInv { R with ver := v, next := n } := ⟨h.apart, h.name, h.items, h.asks⟩

/-- An entry is laid. -/
theorem RInv.set {R : RS} (h : RInv R) {e : Ent} (hk : e.kept = true → (R.entry e.contact).kept = true ∨ (R.kept : Int) < R.items)
    (ha : e.kept = false → e.half.i ≠ 0 → ((R.get e.contact).isSome = true ∧ (R.entry e.contact).kept = false) ∨ (R.list.length : Int) - R.kept < R.asks) : RInv (R.set e) := by
  have hw := RS.was_entry R e.contact
  have hle := R.kept_le
  have hwl := RS.wasKept_le (R := R) e.contact
  have hi := h.items
  have has := h.asks
  unfold RS.set
  split
  · rename_i hc
    obtain ⟨c1, c2⟩ := RS.put_count h.apart e.contact e
    have hI : (R.put e.contact e).items = R.items := rfl
    have hA : (R.put e.contact e).asks = R.asks := rfl
    refine ⟨RS.nodup_put h.apart _ _, fun s x hx => ?_, ?_, ?_⟩
    · by_cases e1 : s = e.contact
      · subst e1; rw [RS.get_put_same] at hx; cases hx; rfl
      · rw [RS.get_put_other R e e1] at hx; exact h.name s x hx
    · rw [hI]
      cases hke : e.kept with
      | false => rw [hke] at c1; simp only [Bool.false_eq_true, if_false] at c1; omega
      | true =>
        rw [hke] at c1
        simp only [if_true] at c1
        rcases hk hke with h1 | h1
        · rw [hw, h1] at c1; simp only [if_true] at c1; omega
        · omega
    · rw [hA, c2]
      cases hke : e.kept with
      | true =>
        rw [hke] at c1
        simp only [if_true] at c1
        cases hs : (R.get e.contact).isSome with
        | true => simp only [if_true]; cases hww : R.wasKept e.contact <;> rw [hww] at c1 <;> simp at c1 <;> omega
        | false =>
          have : R.wasKept e.contact = false := by unfold RS.wasKept; cases hg : R.get e.contact with
            | none => rfl
            | some x => rw [hg] at hs; cases hs
          rw [this] at c1
          simp at c1 ⊢
          omega
      | false =>
        rw [hke] at c1 hc
        simp only [Bool.false_or, Bool.not_eq_true', beq_eq_false_iff_ne, ne_eq] at hc
        simp only [Bool.false_eq_true, if_false] at c1
        rcases ha hke hc with ⟨h1, h2⟩ | h1
        · rw [h1]; rw [hw, h2] at c1; simp at c1 ⊢; omega
        · cases hs : (R.get e.contact).isSome with
          | true =>
            simp only [if_true]
            cases hww : R.wasKept e.contact <;> rw [hww] at c1 <;> simp at c1 <;> omega
          | false =>
            have : R.wasKept e.contact = false := by unfold RS.wasKept; cases hg : R.get e.contact with
              | none => rfl
              | some x => rw [hg] at hs; cases hs
            rw [this] at c1
            simp at c1 ⊢
            omega
  · obtain ⟨c1, c2⟩ := RS.del_count h.apart e.contact
    have hI : (R.del e.contact).items = R.items := rfl
    have hA : (R.del e.contact).asks = R.asks := rfl
    refine ⟨RS.nodup_del h.apart _, fun s x hx => ?_, ?_, ?_⟩
    · by_cases e1 : s = e.contact
      · subst e1; rw [RS.get_del_same] at hx; cases hx
      · rw [RS.get_del_other R e1] at hx; exact h.name s x hx
    · rw [hI]; omega
    · rw [hA]
      have hss : R.wasKept e.contact = true → (R.get e.contact).isSome = true := by
        intro hww
        unfold RS.wasKept at hww
        cases hg : R.get e.contact with
        | none => rw [hg] at hww; cases hww
        | some x => rfl
      cases hww : R.wasKept e.contact with
      | false => rw [hww] at c1; simp at c1; omega
      | true => rw [hww] at c1; rw [hss hww] at c2; simp at c1 c2; omega

/-- Behind an entry that is laid. -/
theorem RS.get_set (R : RS) (e : Ent) (s : ByteArray) : (R.set e).get s = if s = e.contact then (if e.kept || !(e.half.i == 0) then some e else none) else R.get s := by
  unfold RS.set
  by_cases hs : s = e.contact
  · subst hs
    rw [if_pos rfl]
    cases hc : (e.kept || !(e.half.i == 0))
    · simp only [Bool.false_eq_true, if_false]; exact RS.get_del_same _ _
    · simp only [if_true]; exact RS.get_put_same _ _ _
  · rw [if_neg hs]
    split
    · exact RS.get_put_other _ _ hs
    · exact RS.get_del_other _ hs
theorem RS.set_nodup {R : RS} (h : (R.list.map (·.1)).Nodup) (e : Ent) : ((R.set e).list.map (·.1)).Nodup := by
  unfold RS.set; split
  · exact RS.nodup_put h _ _
  · exact RS.nodup_del h _

abbrev RS.kepts (R : RS) : List Ent := R.all (·.kept)

/-- The items are the same just where the entry laid is the item that was there, or neither is one. -/
theorem RS.kepts_set {R : RS} (h : RInv R) {e : Ent} : (R.set e).kepts = R.kepts ↔ ((R.get e.contact).filter (·.kept)) = (if e.kept then some e else none) := by
  have hf : ∀ (x : Ent), (if x.kept || !(x.half.i == 0) then some x else none).filter (·.kept) = if x.kept then some x else none := by
    intro x
    cases hk : x.kept
    · split
      · simp [Option.filter, hk]
      · simp
    · simp [Option.filter, hk]
  constructor
  · intro he
    cases hk : e.kept with
    | true =>
      simp only [if_true]
      have hm : e ∈ (R.set e).kepts := RS.mem_all.2 ⟨⟨e.contact, by rw [RS.get_set, if_pos rfl, hk]; rfl⟩, hk⟩
      rw [he] at hm
      obtain ⟨⟨s, hs⟩, _⟩ := RS.mem_all.1 hm
      have := h.name s e hs
      rw [this, hs]
      simp [Option.filter, hk]
    | false =>
      simp only [Bool.false_eq_true, if_false]
      cases hg : R.get e.contact with
      | none => rfl
      | some x =>
        cases hx : x.kept with
        | false => simp [Option.filter, hx]
        | true =>
          have hm : x ∈ R.kepts := RS.mem_all.2 ⟨⟨_, hg⟩, hx⟩
          rw [← he] at hm
          obtain ⟨⟨s, hs⟩, _⟩ := RS.mem_all.1 hm
          rw [RS.get_set] at hs
          by_cases hse : s = e.contact
          · rw [if_pos hse] at hs
            split at hs
            · cases hs; rw [hk] at hx; cases hx
            · cases hs
          · rw [if_neg hse] at hs
            have := h.name s x hs
            have := h.name _ x hg
            exact absurd (by rw [← h.name s x hs, h.name _ x hg]) hse
  · intro he
    refine RS.all_congr (RS.set_nodup h.apart e) h.apart (fun s => ?_)
    rw [RS.get_set]
    by_cases hs : s = e.contact
    · subst hs
      rw [if_pos rfl, he]
      exact hf e
    · rw [if_neg hs]

theorem halfEq_iff {a b : Half} : halfEq a b = true ↔ a = b := by
  obtain ⟨o, n, i, m⟩ := a
  obtain ⟨o', n', i', m'⟩ := b
  simp [halfEq]
instance : DecidableEq Half := fun a b => decidable_of_iff (halfEq a b = true) halfEq_iff
instance : DecidableEq Ent := fun a b => decidable_of_iff (a.contact = b.contact ∧ a.kept = b.kept ∧ a.name = b.name ∧ a.groups = b.groups ∧ a.half = b.half) (by
  obtain ⟨a1, a2, a3, a4, a5⟩ := a
  obtain ⟨b1, b2, b3, b4, b5⟩ := b
  simp)

/-- What a round's look says. -/
structure Told (R R' : RS) (dropped : Bool) : Prop where
  inv : RInv R'
  items : R'.items = R.items
  asks : R'.asks = R.asks
  ver : decide (R'.ver ≠ R.ver) = (!decide (R'.kepts = R.kepts) || dropped)
  one : R.ver ≤ R'.ver ∧ R'.ver ≤ R.ver + 1
  next : R.next ≤ R'.next ∧ R'.next ≤ R.next + 1
  grow : R'.list.length ≤ R.list.length + 1

theorem Told.refl {R : RS} (h : RInv R) : Told R R false := ⟨h, rfl, rfl, by simp, by omega, by omega, by omega⟩
theorem RS.kepts_ver (R : RS) (v n : Int) : ({ R with ver := v, next := n } : RS).kepts = R.kepts := rfl
theorem RS.set_len {R : RS} (h : RInv R) (e : Ent) : (R.set e).list.length ≤ R.list.length + 1 := by
  unfold RS.set
  split
  · rw [(RS.put_count h.apart _ _).2]; split <;> omega
  · have := (RS.del_count h.apart e.contact).2; omega

theorem told_put {R : RS} (h : RInv R) (s l : ByteArray) (gs : List ByteArray) : Told R (R.putAll s l gs).1 (decide ((R.putAll s l gs).2.2 = 0)) := by
  unfold RS.putAll
  split
  · rename_i hc; simpa [hc] using Told.refl h
  · split
    · rename_i hc; simpa [hc] using Told.refl h
    · split
      · simpa using Told.refl h
      · rename_i hc
        have hct : (R.putE s l gs).contact = (localS s).1 := h.entry _
        obtain ⟨v1, v2, v3, v4⟩ := RS.set_ver R (R.putE s l gs)
        refine ⟨(h.set (e := R.putE s l gs) (fun _ => ?_) (fun hk => by cases hk)).ver _ _, v2, v3, by simp <;> omega, by simp <;> omega, by simp <;> omega, RS.set_len h _⟩
        rw [hct]
        cases hk : (R.entry (localS s).1).kept with
        | true => exact .inl rfl
        | false => right; rw [hk] at hc; simpa using hc

theorem told_drop {R : RS} (h : RInv R) (s : ByteArray) : Told R (R.dropAll s).1 false := by
  unfold RS.dropAll
  split
  · exact Told.refl h
  · split
    · exact Told.refl h
    · rename_i hc
      have hct : (R.entry (localS s).1).contact = (localS s).1 := h.entry _
      rw [hct]
      obtain ⟨v1, v2, v3, v4⟩ := RS.set_ver R (Ent.new (localS s).1)
      have hne : ¬ (R.set (Ent.new (localS s).1)).kepts = R.kepts := by
        rw [RS.kepts_set h]
        simp only [Ent.new]
        unfold RS.entry at hc
        cases hg : R.get (localS s).1 with
        | none => rw [hg] at hc; simp [Ent.new] at hc
        | some x =>
          rw [hg] at hc
          simp only [Option.getD_some, Bool.not_eq_false] at hc
          simp [Option.filter, hc]
      refine ⟨(h.set (e := Ent.new (localS s).1) (fun hk => by cases hk) (fun _ hk => absurd rfl hk)).ver _ _, v2, v3, ?_, by simp; omega, by simp; omega, RS.set_len h _⟩
      have : ({ R.set (Ent.new (localS s).1) with ver := R.ver + 1 } : RS).kepts = (R.set (Ent.new (localS s).1)).kepts := rfl
      rw [this]
      simp [hne] <;> omega

theorem actZ_half {h : Half} {k n : Int} (hm : (actZ h k n).2.1 ≠ 0) : (actZ h k n).1 ≠ h := by
  unfold actZ actS at *
  obtain ⟨o, hn, i, m⟩ := h
  intro e
  repeat' split at hm
  all_goals simp_all

theorem told_act {R : RS} (h : RInv R) (s : ByteArray) (k : Int) : Told R (R.actAll s k).1 false := by
  unfold RS.actAll RS.act
  by_cases h1 : (localS s).2 = 0
  · rw [if_pos h1]
    by_cases h2 : 11 ≤ k ∧ k ≤ 14
    · rw [if_pos h2]
      by_cases h3 : (actZ (R.entry (localS s).1).half k (R.next + 1)).2.1 = 0
      · rw [if_pos h3]; exact Told.refl h
      · rw [if_neg h3]
        by_cases h4 : (k = 11 ∨ k = 12) ∧ (R.entry (localS s).1).kept = false ∧ ¬ (R.kept : Int) < R.items
        · rw [if_pos h4]; exact Told.refl h
        · rw [if_neg h4]
          have hct : (R.entry (localS s).1).contact = (localS s).1 := h.entry _
          have hhalf := actZ_half h3
          generalize hx : (localS s).1 = x at *
          generalize hz : actZ (R.entry x).half k (R.next + 1) = z at *
          obtain ⟨hh, m, nn⟩ := z
          simp only at h3 hhalf ⊢
          generalize he : ({ R.entry x with kept := (R.entry x).kept || (k == 11 || k == 12), half := hh } : Ent) = e
          have hec : e.contact = x := by rw [← he]; exact hct
          have hek : e.kept = ((R.entry x).kept || (k == 11 || k == 12)) := by rw [← he]
          have heh : e.half = hh := by rw [← he]
          -- the roster ahead: next alone may differ
          obtain ⟨Q, hQ⟩ : ∃ Q, (if k = 11 then { R with next := R.next + 1 } else R) = Q := ⟨_, rfl⟩
          have hQinv : RInv Q := by rw [← hQ]; split; exact h.ver _ _; exact h
          have hQg : Q.get = R.get := by rw [← hQ]; split <;> rfl
          have hQk : Q.kepts = R.kepts := by rw [← hQ]; split <;> rfl
          have hQn : R.next ≤ Q.next ∧ Q.next ≤ R.next + 1 := by rw [← hQ]; split <;> simp <;> omega
          have hQv : Q.ver = R.ver ∧ Q.items = R.items ∧ Q.asks = R.asks ∧ Q.list = R.list := by rw [← hQ]; split <;> exact ⟨rfl, rfl, rfl, rfl⟩
          have hQe : Q.entry = R.entry := by funext t; unfold RS.entry; rw [hQg]
          have hQkk : Q.kept = R.kept := by unfold RS.kept; rw [hQv.2.2.2]
          rw [hQ]
          obtain ⟨v1, v2, v3, v4⟩ := RS.set_ver Q e
          have hinv : RInv (Q.set e) := hQinv.set (fun hk => by
              rw [hec, hQe, hQkk, hQv.2.1]
              cases hkk : (R.entry x).kept with
              | true => exact .inl rfl
              | false =>
                right
                rw [hek, hkk] at hk
                simp at hk
                by_cases hlt : (R.kept : Int) < R.items
                · exact hlt
                · exact absurd ⟨hk, hkk, hlt⟩ h4) (fun hk hi => by
              left
              rw [hek] at hk
              simp only [Bool.or_eq_false_iff] at hk
              rw [hec, hQe, hQg]
              refine ⟨?_, hk.1⟩
              cases hg : R.get x with
              | some _ => rfl
              | none =>
                exfalso
                have hen : R.entry x = Ent.new x := by unfold RS.entry; rw [hg]; rfl
                rw [hen] at hz hhalf
                have hk11 : ¬ k = 11 := by simpa using hk.2.1
                have hk12 : ¬ k = 12 := by simpa using hk.2.2
                unfold actZ actS at hz
                simp only [Ent.new, hk11, if_false, hk12] at hz
                have : rightB ⟨0, 0, 0, 0⟩ = true := by decide
                rw [this] at hz
                by_cases hk13 : k = 13
                · simp [hk13] at hz; exact h3 hz.2.1.symm
                · have hk14 : k = 14 := by omega
                  simp [hk14] at hz; exact h3 hz.2.1.symm)
          cases hk : e.kept with
          | true =>
            rw [← hek, hk]
            simp only [if_true]
            have hne : ¬ (Q.set e).kepts = Q.kepts := by
              rw [RS.kepts_set hQinv, hk, hec, hQg]
              simp only [if_true]
              intro hcon
              have := (Option.filter_eq_some_iff.1 hcon).1
              have he2 : R.entry x = e := by unfold RS.entry; rw [this]; rfl
              rw [he2, heh] at hhalf
              exact hhalf rfl
            rw [hQk] at hne
            refine ⟨hinv.ver _ _, v2.trans hQv.2.1, v3.trans hQv.2.2.1, ?_, by simp only [v1, hQv.1]; omega, by simp only [v4]; omega, by have := RS.set_len hQinv e; rw [hQv.2.2.2] at this; exact this⟩
            have : ({ Q.set e with ver := (Q.set e).ver + 1 } : RS).kepts = (Q.set e).kepts := rfl
            rw [this]
            simp only [v1, hQv.1, Bool.or_false]
            simp [hne] <;> omega
          | false =>
            rw [← hek, hk]
            simp only [Bool.false_eq_true, if_false]
            have heq : (Q.set e).kepts = Q.kepts := by
              rw [RS.kepts_set hQinv, hk, hec, hQg]
              simp only [Bool.false_eq_true, if_false]
              cases hg : R.get x with
              | none => rfl
              | some y =>
                have he2 : R.entry x = y := by unfold RS.entry; rw [hg]; rfl
                rw [hek, he2] at hk
                simp only [Bool.or_eq_false_iff] at hk
                simp [Option.filter, hk.1]
            rw [hQk] at heq
            refine ⟨hinv, v2.trans hQv.2.1, v3.trans hQv.2.2.1, by rw [heq]; simp [v1, hQv.1], by simp only [v1, hQv.1]; omega, by simp only [v4]; omega, by have := RS.set_len hQinv e; rw [hQv.2.2.2] at this; exact this⟩
    · rw [if_neg h2]; exact Told.refl h
  · rw [if_neg h1]; exact Told.refl h

theorem hear_zero_i {x : ByteArray} {k nn t : Int} {hh : Half} (hk1 : ¬ k = 1) (hS : hearS (Ent.new x).half k nn = some (hh, t)) : hh.i = 0 := by
  have hr : rightB ⟨0, 0, 0, 0⟩ = true := by decide
  unfold hearS at hS
  simp only [Ent.new, hr, hk1, if_false] at hS
  by_cases e0 : nn = 0
  · simp [e0] at hS
  · have e1 : ¬ 0 = nn := fun e => e0 e.symm
    by_cases e2 : k = 2
    · simp [e0, e1, e2] at hS; rw [← hS.1]
    · by_cases e3 : k = 3
      · simp [e0, e1, e2, e3] at hS; rw [← hS.1]
      · by_cases e4 : k = 4
        · simp [e0, e1, e2, e3, e4] at hS; rw [← hS.1]
        · simp [e0, e1, e2, e3, e4] at hS

theorem told_hear {R : RS} (h : RInv R) (s : ByteArray) (k nn : Int) : Told R (R.hearAll s k nn).1 false := by
  unfold RS.hearAll RS.hear
  by_cases h1 : (localS s).2 = 0
  · rw [if_pos h1]
    have hct : (R.entry (localS s).1).contact = (localS s).1 := h.entry _
    generalize hx : (localS s).1 = x at *
    cases hS : hearS (R.entry x).half k nn with
    | none => exact Told.refl h
    | some ht =>
      obtain ⟨hh, t⟩ := ht
      simp only
      by_cases h2 : (R.get x).isSome = false ∧ k = 1 ∧ R.asks ≤ (R.list.length : Int) - (R.kept : Int)
      · rw [if_pos h2]; exact Told.refl h
      · rw [if_neg h2]
        generalize he : ({ R.entry x with half := hh } : Ent) = e
        have hec : e.contact = x := by rw [← he]; exact hct
        have hek : e.kept = (R.entry x).kept := by rw [← he]
        have heh : e.half = hh := by rw [← he]
        obtain ⟨v1, v2, v3, v4⟩ := RS.set_ver R e
        have hinv : RInv (R.set e) := h.set (fun hk => .inl (by rw [hec, ← hek]; exact hk)) (fun hk hi => by
          rw [hec]
          cases hg : R.get x with
          | some y => exact .inl ⟨rfl, by rw [← hek]; exact hk⟩
          | none =>
            right
            by_cases hk1 : k = 1
            · by_cases hlt : (R.list.length : Int) - R.kept < R.asks
              · exact hlt
              · exact absurd ⟨by rw [hg]; rfl, hk1, by omega⟩ h2
            · exfalso
              have hen : R.entry x = Ent.new x := by unfold RS.entry; rw [hg]; rfl
              rw [hen] at hS
              rw [heh] at hi
              exact hi (hear_zero_i hk1 hS))
        cases hc : ((R.entry x).kept && !(halfEq hh (R.entry x).half)) with
        | true =>
          simp only [Bool.and_eq_true, Bool.not_eq_true'] at hc
          obtain ⟨hc1, hc2⟩ := hc
          have hne : ¬ (R.set e).kepts = R.kepts := by
            rw [RS.kepts_set h, hek, hc1, hec]
            simp only [if_true]
            intro hcon
            have := (Option.filter_eq_some_iff.1 hcon).1
            have he2 : R.entry x = e := by unfold RS.entry; rw [this]; rfl
            rw [he2, heh, (halfEq_iff.2 rfl)] at hc2
            cases hc2
          simp only [if_true]
          refine ⟨hinv.ver _ _, v2, v3, ?_, by simp only [v1]; omega, by simp only [v4]; omega, RS.set_len h _⟩
          have : ({ R.set e with ver := (R.set e).ver + 1 } : RS).kepts = (R.set e).kepts := rfl
          rw [this]
          simp only [v1, Bool.or_false]
          simp [hne] <;> omega
        | false =>
          have heq : (R.set e).kepts = R.kepts := by
            rw [RS.kepts_set h, hek, hec]
            cases hk : (R.entry x).kept with
            | false =>
              simp only [Bool.false_eq_true, if_false]
              cases hg : R.get x with
              | none => rfl
              | some y =>
                have he2 : R.entry x = y := by unfold RS.entry; rw [hg]; rfl
                rw [he2] at hk
                simp [Option.filter, hk]
            | true =>
              rw [hk] at hc
              simp only [Bool.true_and, Bool.not_eq_false'] at hc
              have hhe := halfEq_iff.1 hc
              simp only [if_true]
              cases hg : R.get x with
              | none => unfold RS.entry at hk; rw [hg] at hk; simp [Ent.new] at hk
              | some y =>
                have he2 : R.entry x = y := by unfold RS.entry; rw [hg]; rfl
                have : e = y := by rw [← he, hhe, he2]
                rw [this]
                rw [he2] at hk
                simp [Option.filter, hk]
          simp only [Bool.false_eq_true, if_false]
          exact ⟨hinv, v2, v3, by rw [heq]; simp [v1], by simp only [v1]; omega, by simp only [v4]; omega, RS.set_len h _⟩
  · rw [if_neg h1]; exact Told.refl h

theorem RInv.look {R : RS} (h : RInv R) : (R.kepts.length : Int) ≤ R.items ∧ ((R.all fun _ => true).length : Int) - (R.kepts.length : Int) ≤ R.asks ∧ R.kepts.length ≤ R.list.length ∧ (R.all fun _ => true).length = R.list.length := by
  have h1 : R.kepts.length = R.kept := RS.all_length h.apart _
  have h2 : (R.all fun _ => true).length = R.list.length := by rw [RS.all_length h.apart]; simp
  have := h.items
  have := h.asks
  have := R.kept_le
  rw [h1, h2]
  omega

end Go.Proofs.YthbjcihdlhkboaaGreatDoor
