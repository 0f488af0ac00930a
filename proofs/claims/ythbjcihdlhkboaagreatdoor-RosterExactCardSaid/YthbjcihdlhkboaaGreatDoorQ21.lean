/- Lists that rise by a text of their elements: where a text stands, what lies ahead and behind, laying one and taking one away. Over any program. -/
import Derived.Sort.Walk0
import Derived.Lib.Strings
namespace Go.Proofs.YthbjcihdlhkboaaGreatDoor
set_option linter.unusedSimpArgs false
set_option linter.unusedVariables false

namespace Srt
abbrev ltS (a b : ByteArray) : Bool := Op.bytesLess a.toList b.toList
theorem ltS_iff {a b : ByteArray} : ltS a b = true ↔ a.data.toList < b.data.toList := by
  unfold ltS; rw [bytesLess_eq, Lib.toList_data, Lib.toList_data, decide_eq_true_eq]
theorem data_inj {a b : ByteArray} (h : a.data.toList = b.data.toList) : a = b := by
  have h2 : a.data = b.data := Array.toList_inj.1 h
  cases a; cases b; simp_all
theorem eqS {a b : ByteArray} : (a.toList == b.toList) = true ↔ a = b := by
  rw [beq_iff_eq, Lib.toList_data, Lib.toList_data]
  exact ⟨data_inj, fun h => by rw [h]⟩
theorem ltS_irr (a : ByteArray) : ltS a a = false := by
  cases h : ltS a a
  · rfl
  · exact absurd (ltS_iff.1 h) (List.lt_irrefl _)
theorem ltS_trans {a b c : ByteArray} (h1 : ltS a b = true) (h2 : ltS b c = true) : ltS a c = true :=
  ltS_iff.2 (List.lt_trans (ltS_iff.1 h1) (ltS_iff.1 h2))
theorem ltS_ne {a b : ByteArray} (h : ltS a b = true) : a ≠ b := by
  rintro rfl; rw [ltS_irr] at h; cases h
theorem ltS_tri {a b : ByteArray} (h : ltS a b = false) (hne : a ≠ b) : ltS b a = true := by
  rw [ltS_iff]
  have h1 : ¬ a.data.toList < b.data.toList := fun e => by rw [ltS_iff.2 e] at h; cases h
  rcases Std.lt_trichotomy a.data.toList b.data.toList with e | e | e
  · exact absurd e h1
  · exact absurd (data_inj e) hne
  · exact e

section
variable {α : Type} (key : α → ByteArray)
def pos (l : List α) (x : ByteArray) : Nat := (l.takeWhile (fun r => ltS (key r) x)).length
def isAt (l : List α) (x : ByteArray) : Bool := match l[pos key l x]? with | some r => (key r).toList == x.toList | none => false
def Sorted (l : List α) : Prop := l.Pairwise (fun a b => ltS (key a) (key b) = true)
/-- Where what stays behind it begins. -/
def rest (l : List α) (x : ByteArray) : Nat := pos key l x + if isAt key l x = true then 1 else 0
def put (l : List α) (x : ByteArray) (o : List α) : List α := l.take (pos key l x) ++ o ++ l.drop (rest key l x)
variable {key}

theorem pos_le (l : List α) (x : ByteArray) : pos key l x ≤ l.length := (List.takeWhile_prefix _).length_le
theorem take_pos (l : List α) (x : ByteArray) : l.take (pos key l x) = l.takeWhile (fun r => ltS (key r) x) := by
  unfold pos
  exact (List.prefix_iff_eq_take.1 (List.takeWhile_prefix _)).symm
theorem take_lt {l : List α} {x : ByteArray} {r : α} (h : r ∈ l.take (pos key l x)) : ltS (key r) x = true := by
  rw [take_pos] at h
  exact (List.all_takeWhile (p := fun r => ltS (key r) x) (l := l) |> List.all_eq_true.1) r h
theorem at_pos {l : List α} {x : ByteArray} {r : α} (h : l[pos key l x]? = some r) : ltS (key r) x = false := by
  induction l with
  | nil => simp at h
  | cons a l ih =>
    unfold pos at h ih
    rw [List.takeWhile_cons] at h
    cases ha : ltS (key a) x with
    | true => rw [ha] at h; simp only [if_true, List.length_cons, List.getElem?_cons_succ] at h; exact ih h
    | false => rw [ha] at h; simp at h; subst h; exact ha
theorem pos_eq {l : List α} {x : ByteArray} {k : Nat} (hk : k ≤ l.length) (h : ∀ j r, j < k → l[j]? = some r → ltS (key r) x = true) (he : ∀ r, l[k]? = some r → ltS (key r) x = false) : pos key l x = k := by
  induction l generalizing k with
  | nil => simp at hk; subst hk; rfl
  | cons a l ih =>
    unfold pos at ih ⊢
    rw [List.takeWhile_cons]
    cases k with
    | zero =>
      have := he a rfl
      rw [this]
      rfl
    | succ k =>
      have ha := h 0 a (by omega) rfl
      rw [ha]
      simp only [if_true, List.length_cons]
      rw [ih (k := k) (by simpa using hk) (fun j r hj hr => h (j + 1) r (by omega) (by simpa using hr)) (fun r hr => he r (by simpa using hr))]
theorem drop_ge {l : List α} {x : ByteArray} {r : α} (hs : Sorted key l) (h : r ∈ l.drop (pos key l x)) : ltS (key r) x = false := by
  have hp : Sorted key (l.drop (pos key l x)) := hs.sublist (List.drop_sublist _ _)
  cases hd : l.drop (pos key l x) with
  | nil => rw [hd] at h; cases h
  | cons a t =>
    have ha : l[pos key l x]? = some a := by
      have : (l.drop (pos key l x))[0]? = some a := by rw [hd]; rfl
      rwa [List.getElem?_drop, Nat.add_zero] at this
    rw [hd] at h hp
    rcases List.mem_cons.1 h with rfl | h
    · exact at_pos ha
    · have h1 := (List.pairwise_cons.1 hp).1 r h
      cases h2 : ltS (key r) x with
      | false => rfl
      | true => have := ltS_trans h1 h2; rw [at_pos ha] at this; cases this
theorem isAt_split {l : List α} {x : ByteArray} (h : isAt key l x = true) : ∃ r, l[pos key l x]? = some r ∧ key r = x ∧ l.drop (pos key l x) = r :: l.drop (pos key l x + 1) := by
  unfold isAt at h
  cases hr : l[pos key l x]? with
  | none => rw [hr] at h; cases h
  | some r =>
    rw [hr] at h
    refine ⟨r, rfl, eqS.1 h, ?_⟩
    obtain ⟨hlt, rfl⟩ := List.getElem?_eq_some_iff.1 hr
    exact List.drop_eq_getElem_cons hlt
theorem isAt_iff {l : List α} {x : ByteArray} (hs : Sorted key l) : isAt key l x = true ↔ ∃ r ∈ l, key r = x := by
  constructor
  · intro h
    obtain ⟨r, h1, h2, _⟩ := isAt_split h
    exact ⟨r, List.mem_of_getElem? h1, h2⟩
  · rintro ⟨r, hr, rfl⟩
    have hsp : r ∈ l.take (pos key l (key r)) ++ l.drop (pos key l (key r)) := by rw [List.take_append_drop]; exact hr
    rcases List.mem_append.1 hsp with h | h
    · have := take_lt h; rw [ltS_irr] at this; cases this
    · cases hd : l.drop (pos key l (key r)) with
      | nil => rw [hd] at h; cases h
      | cons a t =>
        have ha : l[pos key l (key r)]? = some a := by
          have : (l.drop (pos key l (key r)))[0]? = some a := by rw [hd]; rfl
          rwa [List.getElem?_drop, Nat.add_zero] at this
        unfold isAt
        rw [ha]
        simp only
        rw [eqS]
        have hp : Sorted key (l.drop (pos key l (key r))) := hs.sublist (List.drop_sublist _ _)
        rw [hd] at h hp
        rcases List.mem_cons.1 h with rfl | h
        · rfl
        · have h1 := (List.pairwise_cons.1 hp).1 r h
          rw [at_pos ha] at h1
          cases h1
theorem drop_rest {l : List α} {x : ByteArray} (hs : Sorted key l) {r : α} (h : r ∈ l.drop (rest key l x)) : r ∈ l ∧ ltS x (key r) = true := by
  have hm : r ∈ l := List.mem_of_mem_drop h
  refine ⟨hm, ?_⟩
  unfold rest at h
  cases hi : isAt key l x with
  | true =>
    rw [hi] at h
    simp only [if_true] at h
    obtain ⟨q, h1, h2, h3⟩ := isAt_split hi
    have hp : Sorted key (l.drop (pos key l x)) := hs.sublist (List.drop_sublist _ _)
    rw [h3] at hp
    have := (List.pairwise_cons.1 hp).1 r h
    rwa [h2] at this
  | false =>
    rw [hi] at h
    simp only [Bool.false_eq_true, if_false, Nat.add_zero] at h
    have h1 := drop_ge hs h
    refine ltS_tri h1 (fun e => ?_)
    have := (isAt_iff hs).2 ⟨r, hm, e⟩
    rw [hi] at this
    cases this
theorem mem_split {l : List α} {x : ByteArray} (hs : Sorted key l) {r : α} : r ∈ l.take (pos key l x) ++ l.drop (rest key l x) ↔ r ∈ l ∧ key r ≠ x := by
  constructor
  · intro h
    rcases List.mem_append.1 h with h | h
    · exact ⟨List.mem_of_mem_take h, ltS_ne (take_lt h)⟩
    · obtain ⟨h1, h2⟩ := drop_rest hs h
      exact ⟨h1, fun e => ltS_ne h2 e.symm⟩
  · rintro ⟨h, hne⟩
    have hsp : r ∈ l.take (pos key l x) ++ l.drop (pos key l x) := by rw [List.take_append_drop]; exact h
    rcases List.mem_append.1 hsp with h | h
    · exact List.mem_append.2 (.inl h)
    · refine List.mem_append.2 (.inr ?_)
      unfold rest
      cases hi : isAt key l x with
      | false => simpa using h
      | true =>
        simp only [if_true]
        obtain ⟨q, _, h2, h3⟩ := isAt_split hi
        rw [h3] at h
        rcases List.mem_cons.1 h with rfl | h
        · exact absurd h2 hne
        · exact h
theorem mem_put {l o : List α} {x : ByteArray} (hs : Sorted key l) {r : α} : r ∈ put key l x o ↔ r ∈ o ∨ (r ∈ l ∧ key r ≠ x) := by
  unfold put
  rw [← mem_split hs]
  simp only [List.mem_append]
  constructor
  · rintro ((h | h) | h)
    · exact .inr (.inl h)
    · exact .inl h
    · exact .inr (.inr h)
  · rintro (h | h | h)
    · exact .inl (.inr h)
    · exact .inl (.inl h)
    · exact .inr h
theorem sorted_split {l : List α} {x : ByteArray} (hs : Sorted key l) : Sorted key (l.take (pos key l x) ++ l.drop (rest key l x)) := by
  refine List.pairwise_append.2 ⟨hs.sublist (List.take_sublist _ _), hs.sublist (List.drop_sublist _ _), fun a ha b hb => ?_⟩
  exact ltS_trans (take_lt ha) (drop_rest hs hb).2
theorem sorted_del {l : List α} {x : ByteArray} (hs : Sorted key l) : Sorted key (put key l x []) := by
  unfold put; rw [List.append_nil]; exact sorted_split hs
theorem sorted_put {l : List α} {x : ByteArray} {r : α} (hs : Sorted key l) (hr : key r = x) : Sorted key (put key l x [r]) := by
  unfold put
  rw [List.append_assoc]
  refine List.pairwise_append.2 ⟨hs.sublist (List.take_sublist _ _), ?_, fun a ha b hb => ?_⟩
  · refine List.pairwise_cons.2 ⟨fun b hb => ?_, hs.sublist (List.drop_sublist _ _)⟩
    rw [hr]; exact (drop_rest hs hb).2
  · rcases List.mem_cons.1 hb with rfl | hb
    · rw [hr]; exact take_lt ha
    · exact ltS_trans (take_lt ha) (drop_rest hs hb).2
theorem length_put {l : List α} {x : ByteArray} (o : List α) : (put key l x o).length + (if isAt key l x = true then 1 else 0) = l.length + o.length := by
  unfold put rest
  have hp := pos_le (key := key) l x
  simp only [List.length_append, List.length_take, List.length_drop]
  cases hi : isAt key l x with
  | false => simp; omega
  | true =>
    obtain ⟨q, h1, _⟩ := isAt_split hi
    have := (List.getElem?_eq_some_iff.1 h1).1
    simp
    omega
theorem ext {l m : List α} (h1 : Sorted key l) (h2 : Sorted key m) (h : ∀ r, r ∈ l ↔ r ∈ m) : l = m := by
  induction l generalizing m with
  | nil =>
    cases m with
    | nil => rfl
    | cons a m => exact absurd ((h a).2 (by simp)) (by simp)
  | cons a l ih =>
    cases m with
    | nil => exact absurd ((h a).1 (by simp)) (by simp)
    | cons b m =>
      obtain ⟨a1, a2⟩ := List.pairwise_cons.1 h1
      obtain ⟨b1, b2⟩ := List.pairwise_cons.1 h2
      have hab : a = b := by
        rcases List.mem_cons.1 ((h a).1 (by simp)) with e | e
        · exact e
        · rcases List.mem_cons.1 ((h b).2 (by simp)) with e2 | e2
          · exact e2.symm
          · have := ltS_trans (b1 a e) (a1 b e2); rw [ltS_irr] at this; cases this
      subst hab
      rw [ih a2 b2 (fun r => ?_)]
      constructor
      · intro hr
        rcases List.mem_cons.1 ((h r).1 (List.mem_cons_of_mem _ hr)) with rfl | e
        · have := a1 _ hr; rw [ltS_irr] at this; cases this
        · exact e
      · intro hr
        rcases List.mem_cons.1 ((h r).2 (List.mem_cons_of_mem _ hr)) with rfl | e
        · have := b1 _ hr; rw [ltS_irr] at this; cases this
        · exact e
/-- With the element that is there laid anew in its place. -/
theorem put_set {l : List α} {x : ByteArray} (h : isAt key l x = true) (r : α) : put key l x [r] = l.set (pos key l x) r := by
  obtain ⟨q, h1, _⟩ := isAt_split h
  unfold put rest
  rw [h]
  simp only [if_true]
  rw [List.set_eq_take_append_cons_drop, if_pos (List.getElem?_eq_some_iff.1 h1).1, List.append_assoc]
  rfl
end
end Srt
end Go.Proofs.YthbjcihdlhkboaaGreatDoor
