/- Privacy lists by the reference: a rising list of rows; every call answers as the program's does and leaves the same lists. -/
import Derived.Test.YthbjcihdlhkboaaGreatDoorLs5
import Derived.Test.YthbjcihdlhkboaaGreatDoorRfp
import Derived.Test.YthbjcihdlhkboaaGreatDoorSrt
namespace Go.Proofs.YthbjcihdlhkboaaGreatDoor
set_option linter.unusedSimpArgs false
set_option linter.unusedVariables false
open Go.RowKit Go.Maps Go.Shelf Go.Lib

structure Row where
  name : ByteArray
  texts : List ByteArray
  rules : List Rule
structure RL where
  most : Int
  rules : Int
  chosen : ByteArray
  rows : List Row

abbrev RL.pos (S : RL) (s : ByteArray) : Nat := Srt.pos Row.name S.rows s
abbrev RL.is (S : RL) (s : ByteArray) : Bool := Srt.isAt Row.name S.rows s
/-- Is a rule right, as the readers leave them? -/
def fitsR (r : Rule) (inn : Bool) (contact : ByteArray) (groups : List ByteArray) (sub : ByteArray) : Bool :=
  if (inn && !r.inn) || (!inn && !r.out) then false
  else if r.by_.toList == [97, 108, 108] then true
  else if r.by_.toList == [106, 105, 100] then r.value.toList == contact.toList
  else if r.by_.toList == [115, 117, 98] then (sub.toList == r.value.toList) || (sub.toList == (r.value ++ ⟨#[44, 97, 115, 107]⟩).toList)
  else groups.any (fun g => g.toList == r.value.toList)
def firstFitR (rs : List Rule) (inn : Bool) (contact : ByteArray) (groups : List ByteArray) (sub : ByteArray) : Bool :=
  match rs.find? (fun r => fitsR r inn contact groups sub) with
  | some r => r.allow
  | none => true
def RL.rowsAt (S : RL) (s : ByteArray) : List Rule := if S.is s = true then ((S.rows[S.pos s]?).map (·.rules)).getD [] else []
def RL.allows (S : RL) (name : ByteArray) (inn : Bool) (contact : ByteArray) (groups : List ByteArray) (sub : ByteArray) : Bool :=
  if S.is name = true then firstFitR (S.rowsAt name) inn contact groups sub
  else if S.is S.chosen = true then firstFitR (S.rowsAt S.chosen) inn contact groups sub else true
def RL.setRow (S : RL) (name : ByteArray) (rs : List Rule) : RL := { S with rows := Srt.put Row.name S.rows name [⟨name, rs.map refWriteS, rs⟩] }
def RL.set (S : RL) (name : ByteArray) (texts : List ByteArray) : Int × RL :=
  if wordE name (validB name) = 0 then
    match parseAll texts with
    | .error e => (e, S)
    | .ok rs => if S.rules < texts.length ∨ (S.is name = false ∧ S.most ≤ S.rows.length) then (8, S) else (0, S.setRow name rs)
  else (wordE name (validB name), S)
def RL.drop (S : RL) (name : ByteArray) : Int × RL :=
  if S.is name = false then (7, S) else if S.chosen = name then (9, S) else (0, { S with rows := Srt.put Row.name S.rows name [] })
def RL.deflt (S : RL) (name : ByteArray) : Int × RL :=
  if name ≠ ⟨#[]⟩ ∧ S.is name = false then (7, S) else (0, { S with chosen := name })

/-- The program's calls, beside Set. -/
def LS.drop (L : LS) (name : ByteArray) : Int × LS :=
  if (L.get name).isSome = false then (7, L) else if L.chosen = name then (9, L) else (0, L.del name)
def LS.deflt (L : LS) (name : ByteArray) : Int × LS :=
  if name ≠ ⟨#[]⟩ ∧ (L.get name).isSome = false then (7, L) else (0, { L with chosen := name })

/-- The two hold the same. -/
structure Twin (L : LS) (S : RL) : Prop where
  most : L.most = S.most
  rules : L.rules = S.rules
  chosen : L.chosen = S.chosen
  sorted : Srt.Sorted Row.name S.rows
  apart : (L.items.map (·.1)).Nodup
  find : ∀ s rs, L.get s = some rs ↔ ∃ r ∈ S.rows, r.name = s ∧ r.rules = rs
  right : ∀ r ∈ S.rows, r.texts = r.rules.map refWriteS ∧ ∀ q ∈ r.rules, ∃ t, parseF t = .ok q

theorem Twin.new (most rules : Int) : Twin ⟨most, rules, ⟨#[]⟩, []⟩ ⟨most, rules, ⟨#[]⟩, []⟩ :=
  ⟨rfl, rfl, rfl, List.Pairwise.nil, List.nodup_nil, fun s rs => ⟨fun h => by simp [LS.get] at h, fun ⟨r, h, _⟩ => by cases h⟩, fun r h => by cases h⟩

theorem LS.mem_items {L : LS} {s : ByteArray} : (L.get s).isSome = true ↔ s ∈ L.items.map (·.1) := by
  rw [LS.get_isSome, List.any_eq_true]
  constructor
  · rintro ⟨p, hp, h⟩; exact List.mem_map.2 ⟨p, hp, by simpa using h⟩
  · intro h; obtain ⟨p, hp, h⟩ := List.mem_map.1 h; exact ⟨p, hp, by simpa using h⟩

section
variable {L : LS} {S : RL} (h : Twin L S)
include h
theorem Twin.has (s : ByteArray) : (L.get s).isSome = S.is s := by
  rw [Bool.eq_iff_iff, Srt.isAt_iff h.sorted]
  constructor
  · intro hs
    obtain ⟨rs, hrs⟩ := Option.isSome_iff_exists.1 hs
    obtain ⟨r, h1, h2, _⟩ := (h.find s rs).1 hrs
    exact ⟨r, h1, h2⟩
  · rintro ⟨r, h1, h2⟩
    rw [(h.find s r.rules).2 ⟨r, h1, h2, rfl⟩]
    rfl
theorem Twin.length : L.items.length = S.rows.length := by
  have hp : (L.items.map (·.1)).Perm (S.rows.map Row.name) := by
    refine (List.perm_ext_iff_of_nodup h.apart (Srt.nodup h.sorted)).2 (fun s => ?_)
    rw [← LS.mem_items, h.has, Srt.isAt_iff h.sorted]
    constructor
    · rintro ⟨r, h1, h2⟩; exact List.mem_map.2 ⟨r, h1, h2⟩
    · intro hm; obtain ⟨r, h1, h2⟩ := List.mem_map.1 hm; exact ⟨r, h1, h2⟩
  have := hp.length_eq
  simpa using this
theorem Twin.rowsAt (s : ByteArray) : (L.get s).getD [] = S.rowsAt s ∧ (S.is s = true → ∃ r, S.rows[S.pos s]? = some r ∧ r.name = s ∧ L.get s = some r.rules) := by
  unfold RL.rowsAt
  cases hi : S.is s with
  | false =>
    have hn := h.has s
    rw [hi] at hn
    cases hg : L.get s with
    | none => exact ⟨rfl, fun e => by cases e⟩
    | some rs => rw [hg] at hn; cases hn
  | true =>
    obtain ⟨r, h1, h2, _⟩ := Srt.isAt_split hi
    have hm : r ∈ S.rows := List.mem_of_getElem? h1
    have hg := (h.find s r.rules).2 ⟨r, hm, h2, rfl⟩
    refine ⟨?_, fun _ => ⟨r, h1, h2, hg⟩⟩
    rw [hg, h1]
    rfl
end

theorem valueS_by {a s lv v : ByteArray} {so va : Bool} {le : Int} (h : valueS a s so va lv le = .ok v) : a.toList = [97, 108, 108] ∨ a.toList = [106, 105, 100] ∨ a.toList = [103, 114, 111, 117, 112] ∨ a.toList = [115, 117, 98] := by
  by_cases h1 : a.toList = [97, 108, 108]
  · exact .inl h1
  by_cases h2 : a.toList = [106, 105, 100]
  · exact .inr (.inl h2)
  by_cases h3 : a.toList = [103, 114, 111, 117, 112]
  · exact .inr (.inr (.inl h3))
  by_cases h4 : a.toList = [115, 117, 98]
  · exact .inr (.inr (.inr h4))
  unfold valueS at h
  simp [h1, h2, h3, h4] at h
theorem parseF_by {s : ByteArray} {q : Rule} (h : parseF s = .ok q) : q.by_.toList = [97, 108, 108] ∨ q.by_.toList = [106, 105, 100] ∨ q.by_.toList = [103, 114, 111, 117, 112] ∨ q.by_.toList = [115, 117, 98] := by
  unfold parseF parseS at h
  split at h
  · split at h
    · generalize hv : valueS _ _ _ _ _ _ = x at h
      cases x with
      | error c => simp [thenRule] at h
      | ok v =>
        simp only [thenRule, Except.ok.injEq] at h
        subst h
        exact valueS_by hv
    · cases h
  · cases h
theorem fits_same {q : Rule} (h : ∃ t, parseF t = .ok q) (inn : Bool) (contact : ByteArray) (groups : List ByteArray) (sub : ByteArray) : fitsR q inn contact groups sub = fitsS q inn contact groups sub := by
  obtain ⟨t, ht⟩ := h
  have hb := parseF_by ht
  have hc : groups.any (fun g => g.toList == q.value.toList) = Lib.containsS groups q.value := by
    rw [Bool.eq_iff_iff, Lib.containsS_iff, List.any_eq_true]
    constructor
    · rintro ⟨g, hg, e⟩
      rw [← Srt.eqS.1 e]
      exact hg
    · intro hm
      exact ⟨_, hm, Srt.eqS.2 rfl⟩
  unfold fitsR fitsS
  rw [hc]
  rcases hb with e | e | e | e <;> rw [e] <;> rfl
theorem firstFit_same {rs : List Rule} (h : ∀ q ∈ rs, ∃ t, parseF t = .ok q) (inn : Bool) (contact : ByteArray) (groups : List ByteArray) (sub : ByteArray) : firstFitR rs inn contact groups sub = firstFit rs inn contact groups sub := by
  unfold firstFitR firstFit
  have : rs.find? (fun r => fitsR r inn contact groups sub) = rs.find? (fun r => fitsS r inn contact groups sub) := by
    induction rs with
    | nil => rfl
    | cons q qs ih =>
      rw [List.find?_cons, List.find?_cons, fits_same (h q (by simp)), ih (fun p hp => h p (List.mem_cons_of_mem _ hp))]
  rw [this]
  cases rs.find? (fun r => fitsS r inn contact groups sub) <;> rfl

theorem Twin.allows {L : LS} {S : RL} (h : Twin L S) (name : ByteArray) (inn : Bool) (contact : ByteArray) (groups : List ByteArray) (sub : ByteArray) : L.allows name inn contact groups sub = S.allows name inn contact groups sub := by
  have key : ∀ s, firstFit ((L.get s).getD []) inn contact groups sub = if S.is s = true then firstFitR (S.rowsAt s) inn contact groups sub else true := by
    intro s
    obtain ⟨e1, e2⟩ := h.rowsAt s
    cases hi : S.is s with
    | false =>
      have : S.rowsAt s = [] := by unfold RL.rowsAt; rw [hi]; rfl
      rw [e1, this]
      rfl
    | true =>
      obtain ⟨r, h1, h2, h3⟩ := e2 hi
      rw [← e1, h3]
      simp only [if_true, Option.getD_some]
      rw [firstFit_same (h.right r (List.mem_of_getElem? h1)).2]
  unfold LS.allows RL.allows LS.named
  rw [h.has name, key]
  cases hi : S.is name with
  | true => simp [hi]
  | false => simp [hi, h.chosen]

theorem LS.get_del_same (L : LS) (s : ByteArray) : (L.del s).get s = none := by
  unfold LS.get LS.del
  simp only [Option.map_eq_none_iff, List.find?_eq_none]
  intro p hp
  have := (List.mem_filter.1 hp).2
  simpa using this
theorem LS.get_del_other (L : LS) {s t : ByteArray} (hne : t ≠ s) : (L.del s).get t = L.get t := by
  unfold LS.get LS.del
  simp only
  congr 1
  rw [List.find?_filter]
  congr 1
  funext p
  by_cases h : p.1 = t
  · simp [h, hne]
  · simp [h]
theorem LS.nodup_put {L : LS} (h : (L.items.map (·.1)).Nodup) (s : ByteArray) (rs : List Rule) : ((L.put s rs).items.map (·.1)).Nodup := by
  show (s :: (L.items.filter _).map (·.1)).Nodup
  rw [List.nodup_cons]
  refine ⟨fun hm => ?_, (List.Sublist.map _ List.filter_sublist).nodup h⟩
  obtain ⟨p, hp, e⟩ := List.mem_map.1 hm
  have := (List.mem_filter.1 hp).2
  simp [e] at this
theorem LS.nodup_del {L : LS} (h : (L.items.map (·.1)).Nodup) (s : ByteArray) : ((L.del s).items.map (·.1)).Nodup := (List.Sublist.map _ List.filter_sublist).nodup h

theorem Twin.setRow {L : LS} {S : RL} (h : Twin L S) (name : ByteArray) (rs : List Rule) (hrs : ∀ q ∈ rs, ∃ t, parseF t = .ok q) : Twin (L.put name rs) (S.setRow name rs) where
  most := h.most
  rules := h.rules
  chosen := h.chosen
  sorted := Srt.sorted_put h.sorted rfl
  apart := LS.nodup_put h.apart _ _
  find := fun s qs => by
    have hm : ∀ r, r ∈ (S.setRow name rs).rows ↔ r ∈ [(⟨name, rs.map refWriteS, rs⟩ : Row)] ∨ (r ∈ S.rows ∧ r.name ≠ name) := fun r => Srt.mem_put h.sorted
    by_cases e : s = name
    · subst e
      rw [LS.get_put_same]
      constructor
      · intro he
        cases he
        exact ⟨⟨s, rs.map refWriteS, rs⟩, (hm _).2 (.inl (by simp)), rfl, rfl⟩
      · rintro ⟨r, h1, h2, h3⟩
        rcases (hm r).1 h1 with h4 | ⟨_, h4⟩
        · simp at h4; subst h4; rw [← h3]
        · exact absurd h2 h4
    · rw [LS.get_put_other L rs e, h.find]
      constructor
      · rintro ⟨r, h1, h2, h3⟩
        exact ⟨r, (hm r).2 (.inr ⟨h1, by rw [h2]; exact e⟩), h2, h3⟩
      · rintro ⟨r, h1, h2, h3⟩
        rcases (hm r).1 h1 with h4 | ⟨h4, _⟩
        · simp at h4; subst h4; exact absurd h2.symm e
        · exact ⟨r, h4, h2, h3⟩
  right := fun r hr => by
    rcases (Srt.mem_put h.sorted).1 hr with h4 | ⟨h4, _⟩
    · simp at h4; subst h4; exact ⟨rfl, hrs⟩
    · exact h.right r h4
theorem Twin.delRow {L : LS} {S : RL} (h : Twin L S) (name : ByteArray) : Twin (L.del name) { S with rows := Srt.put Row.name S.rows name [] } where
  most := h.most
  rules := h.rules
  chosen := h.chosen
  sorted := Srt.sorted_del h.sorted
  apart := LS.nodup_del h.apart _
  find := fun s qs => by
    have hm : ∀ r, r ∈ Srt.put Row.name S.rows name [] ↔ r ∈ S.rows ∧ r.name ≠ name := fun r => by rw [Srt.mem_put h.sorted]; simp
    by_cases e : s = name
    · subst e
      rw [LS.get_del_same]
      constructor
      · intro he; cases he
      · rintro ⟨r, h1, h2, h3⟩
        exact absurd h2 ((hm r).1 h1).2
    · rw [LS.get_del_other L e, h.find]
      constructor
      · rintro ⟨r, h1, h2, h3⟩
        exact ⟨r, (hm r).2 ⟨h1, by rw [h2]; exact e⟩, h2, h3⟩
      · rintro ⟨r, h1, h2, h3⟩
        exact ⟨r, ((hm r).1 h1).1, h2, h3⟩
  right := fun r hr => by
    rcases (Srt.mem_put h.sorted).1 hr with h4 | ⟨h4, _⟩
    · simp at h4
    · exact h.right r h4

theorem Twin.set {L : LS} {S : RL} (h : Twin L S) (name : ByteArray) (texts : List ByteArray) : (L.set name texts).1 = (S.set name texts).1 ∧ Twin (L.set name texts).2 (S.set name texts).2 := by
  unfold LS.set RL.set
  by_cases hw : wordE name (validB name) = 0
  · rw [if_pos hw, if_pos hw]
    cases hp : parseAll texts with
    | error e => exact ⟨rfl, h⟩
    | ok rs =>
      obtain ⟨hl, hm⟩ := parseAll_mem hp
      simp only
      rw [h.has, h.rules, h.most, h.length, hl]
      by_cases hc : S.rules < (texts.length : Int) ∨ (S.is name = false ∧ S.most ≤ (S.rows.length : Int))
      · rw [if_pos hc, if_pos hc]; exact ⟨rfl, h⟩
      · rw [if_neg hc, if_neg hc]
        exact ⟨rfl, h.setRow name rs fun q hq => let ⟨t, _, ht⟩ := hm q hq; ⟨t, ht⟩⟩
  · rw [if_neg hw, if_neg hw]; exact ⟨rfl, h⟩
theorem Twin.drop {L : LS} {S : RL} (h : Twin L S) (name : ByteArray) : (L.drop name).1 = (S.drop name).1 ∧ Twin (L.drop name).2 (S.drop name).2 := by
  unfold LS.drop RL.drop
  rw [h.has, h.chosen]
  by_cases h1 : S.is name = false
  · rw [if_pos h1, if_pos h1]; exact ⟨rfl, h⟩
  · rw [if_neg h1, if_neg h1]
    by_cases h2 : S.chosen = name
    · rw [if_pos h2, if_pos h2]; exact ⟨rfl, h⟩
    · rw [if_neg h2, if_neg h2]; exact ⟨rfl, h.delRow name⟩
theorem Twin.deflt {L : LS} {S : RL} (h : Twin L S) (name : ByteArray) : (L.deflt name).1 = (S.deflt name).1 ∧ Twin (L.deflt name).2 (S.deflt name).2 := by
  unfold LS.deflt RL.deflt
  rw [h.has]
  by_cases h1 : name ≠ ⟨#[]⟩ ∧ S.is name = false
  · rw [if_pos h1, if_pos h1]; exact ⟨rfl, h⟩
  · rw [if_neg h1, if_neg h1]
    exact ⟨rfl, ⟨h.most, h.rules, rfl, h.sorted, h.apart, h.find, h.right⟩⟩

/-- What is told: the names rising, the rules written. -/
def LS.keys (L : LS) : List (List UInt8) := (L.items.map fun p => p.1.data.toList).mergeSort (fun x y => decide (x ≤ y))
def LS.told (L : LS) : List (ByteArray × List ByteArray) := L.keys.map fun k => (⟨k.toArray⟩, ((L.get ⟨k.toArray⟩).getD []).map writeS)
theorem Twin.told {L : LS} {S : RL} (h : Twin L S) : L.told = S.rows.map (fun r => (r.name, r.texts)) := by
  have hk : L.keys = S.rows.map (fun r => r.name.data.toList) := by
    have hp : (L.items.map fun p => p.1.data.toList).Perm (S.rows.map fun r => r.name.data.toList) := by
      have hp : (L.items.map (·.1)).Perm (S.rows.map Row.name) := by
        refine (List.perm_ext_iff_of_nodup h.apart (Srt.nodup h.sorted)).2 (fun s => ?_)
        rw [← LS.mem_items, h.has, Srt.isAt_iff h.sorted]
        constructor
        · rintro ⟨r, h1, h2⟩; exact List.mem_map.2 ⟨r, h1, h2⟩
        · intro hm; obtain ⟨r, h1, h2⟩ := List.mem_map.1 hm; exact ⟨r, h1, h2⟩
      have := hp.map (fun s : ByteArray => s.data.toList)
      simpa [List.map_map, Function.comp_def] using this
    unfold LS.keys
    have hle : ∀ a b c : List UInt8, decide (a ≤ b) = true → decide (b ≤ c) = true → decide (a ≤ c) = true := by
      intro a b c h1 h2; simp only [decide_eq_true_eq] at *; exact List.le_trans h1 h2
    have htot : ∀ a b : List UInt8, (decide (a ≤ b) || decide (b ≤ a)) = true := by
      intro a b; simp only [Bool.or_eq_true, decide_eq_true_eq]; exact List.le_total a b
    refine List.Perm.eq_of_pairwise (le := fun a b => decide (a ≤ b) = true) (fun a b _ _ h1 h2 => ?_) (List.pairwise_mergeSort hle htot _) ?_ ((List.mergeSort_perm _ _).trans hp)
    · simp only [decide_eq_true_eq] at h1 h2; exact List.le_antisymm h1 h2
    · refine List.Pairwise.map _ (fun a b hab => ?_) h.sorted
      simp only [decide_eq_true_eq]
      exact List.le_of_lt (Srt.ltS_iff.1 hab)
  unfold LS.told
  rw [hk, List.map_map]
  refine List.map_congr_left (fun r hr => ?_)
  have e : (⟨r.name.data.toList.toArray⟩ : ByteArray) = r.name := by cases r.name; rfl
  simp only [Function.comp, e]
  rw [(h.find r.name r.rules).2 ⟨r, hr, rfl, rfl⟩, (h.right r hr).1]
  simp only [Option.getD_some, Prod.mk.injEq, true_and]
  refine List.map_congr_left (fun q hq => ?_)
  obtain ⟨t, ht⟩ := (h.right r hr).2 q hq
  exact (write_same q (parseF_way ht)).symm
end Go.Proofs.YthbjcihdlhkboaaGreatDoor
