/- Setting a list, on the level of lists: what it answers and what it leaves. -/
import Derived.Test.YthbjcihdlhkboaaGreatDoorLs3
import Derived.Test.YthbjcihdlhkboaaGreatDoorPv4
namespace Go.Proofs.YthbjcihdlhkboaaGreatDoor
set_option linter.unusedSimpArgs false
set_option linter.unusedVariables false
open Go.RowKit Go.Maps Go.Shelf Go.Lib

def parseAll : List ByteArray → Except Int (List Rule)
  | [] => .ok []
  | t :: ts => match parseF t with
    | .error e => .error e
    | .ok r => match parseAll ts with
      | .error e => .error e
      | .ok rs => .ok (r :: rs)

theorem parseAll_snoc_ok {ts : List ByteArray} {rs : List Rule} (h : parseAll ts = .ok rs) {t : ByteArray} {r : Rule} (ht : parseF t = .ok r) : parseAll (ts ++ [t]) = .ok (rs ++ [r]) := by
  induction ts generalizing rs with
  | nil => cases h; simp [parseAll, ht]
  | cons u us ih =>
    simp only [parseAll, List.cons_append] at h ⊢
    cases hu : parseF u with
    | error e => rw [hu] at h; cases h
    | ok q =>
      rw [hu] at h
      cases hus : parseAll us with
      | error e => rw [hus] at h; cases h
      | ok qs => rw [hus] at h; cases h; rw [ih hus]; rfl

theorem parseAll_err {ts us : List ByteArray} {rs : List Rule} (h : parseAll ts = .ok rs) {t : ByteArray} {e : Int} (ht : parseF t = .error e) : parseAll (ts ++ t :: us) = .error e := by
  induction ts generalizing rs with
  | nil => simp [parseAll, ht]
  | cons v vs ih =>
    simp only [parseAll, List.cons_append] at h ⊢
    cases hu : parseF v with
    | error e => rw [hu] at h; cases h
    | ok q =>
      rw [hu] at h
      cases hus : parseAll vs with
      | error e => rw [hus] at h; cases h
      | ok qs => rw [ih hus]

theorem parseAll_mem {ts : List ByteArray} {rs : List Rule} (h : parseAll ts = .ok rs) : rs.length = ts.length ∧ ∀ r ∈ rs, ∃ t ∈ ts, parseF t = .ok r := by
  induction ts generalizing rs with
  | nil => cases h; simp
  | cons u us ih =>
    simp only [parseAll] at h
    cases hu : parseF u with
    | error e => rw [hu] at h; cases h
    | ok q =>
      rw [hu] at h
      cases hus : parseAll us with
      | error e => rw [hus] at h; cases h
      | ok qs =>
        rw [hus] at h; cases h
        obtain ⟨a, b⟩ := ih hus
        refine ⟨by simp [a], fun r hr => ?_⟩
        rcases List.mem_cons.1 hr with rfl | hr
        · exact ⟨u, by simp, hu⟩
        · obtain ⟨t, ht, e⟩ := b r hr
          exact ⟨t, by simp [ht], e⟩

theorem valueS_err {a s lv : ByteArray} {so va : Bool} {le c : Int} (h : valueS a s so va lv le = .error c) : c ≠ 0 := by
  unfold valueS at h
  repeat' split at h
  all_goals first | (cases h; assumption) | (cases h; decide) | cases h

theorem parseF_err {s : ByteArray} {c : Int} (h : parseF s = .error c) : c ≠ 0 := by
  unfold parseF parseS at h
  split at h
  · split at h
    · generalize hv : valueS _ _ _ _ _ _ = x at h
      cases x with
      | error c' => cases h; exact valueS_err hv
      | ok v => cases h
    · cases h; decide
  · cases h; decide

def LS.set (L : LS) (name : ByteArray) (texts : List ByteArray) : Int × LS :=
  if wordE name (validB name) = 0 then
    match parseAll texts with
    | .error e => (e, L)
    | .ok rs => if L.rules < rs.length ∨ ((L.get name).isSome = false ∧ L.most ≤ L.items.length) then (8, L) else (0, L.put name rs)
  else (wordE name (validB name), L)

theorem LS.get_put_same (L : LS) (s : ByteArray) (rs : List Rule) : (L.put s rs).get s = some rs := by simp [LS.get, LS.put]
theorem LS.get_put_other (L : LS) {s t : ByteArray} (rs : List Rule) (hne : t ≠ s) : (L.put s rs).get t = L.get t := by
  unfold LS.get LS.put
  simp only
  rw [List.find?_cons_of_neg (by simpa using fun e => hne e.symm)]
  congr 1
  rw [List.find?_filter]
  congr 1
  funext p
  by_cases h : p.1 = t
  · simp [h, hne]
  · simp [h]

theorem LS.get_isSome (L : LS) (s : ByteArray) : (L.get s).isSome = L.items.any (fun p => decide (p.1 = s)) := by
  unfold LS.get
  rw [Option.isSome_map]
  rw [Bool.eq_iff_iff, List.find?_isSome, List.any_eq_true]

theorem filter_len {l : List (ByteArray × List Rule)} (h : (l.map (·.1)).Nodup) (s : ByteArray) : (l.filter (fun p => !decide (p.1 = s))).length + (if l.any (fun p => decide (p.1 = s)) then 1 else 0) = l.length := by
  induction l with
  | nil => rfl
  | cons p ps ih =>
    simp only [List.map_cons, List.nodup_cons] at h
    have ih := ih h.2
    by_cases e : p.1 = s
    · have hn : ps.any (fun p => decide (p.1 = s)) = false := by
        rw [List.any_eq_false]
        intro q hq
        simp only [decide_eq_true_eq]
        intro e2
        exact h.1 (List.mem_map.2 ⟨q, hq, e2.trans e.symm⟩)
      rw [hn] at ih
      simp [e] at ih ⊢
      omega
    · have ed : decide (p.1 = s) = false := by simpa using e
      rw [List.filter_cons_of_pos (by simp [e]), List.any_cons, ed, Bool.false_or, List.length_cons, List.length_cons]
      omega

theorem LS.put_length {L : LS} (h : (L.items.map (·.1)).Nodup) (s : ByteArray) (rs : List Rule) : (L.put s rs).items.length = if (L.get s).isSome then L.items.length else L.items.length + 1 := by
  have := filter_len h s
  rw [← LS.get_isSome] at this
  have e : (L.put s rs).items.length = (L.items.filter (fun p => !decide (p.1 = s))).length + 1 := rfl
  rw [e]
  generalize (L.items.filter (fun p => !decide (p.1 = s))).length = q at this ⊢
  cases hb : (L.get s).isSome
  · rw [hb] at this
    simp only [Bool.false_eq_true, if_false] at this ⊢
    omega
  · rw [hb] at this
    simp only [if_true] at this ⊢
    omega

theorem seq_ne_map {w : World} {B n m : Nat} {v : Value} {xs : List Value} {mb q : Nat} {D : DataW Value} {e k : TypeId} {sz : Nat} (h : Seq w B e sz v n xs) (hm : w.ownsMap Tryz.prog k tokR mb q D) : v.ownBlock ≠ some mb := by
  intro e1
  obtain ⟨cur, hc⟩ := h.block mb e1
  obtain ⟨es, clock, hb, _⟩ := hm
  rw [hb] at hc
  cases hc

theorem Seq.lower {w : World} {B B' n : Nat} {e : TypeId} {sz : Nat} {v : Value} {xs : List Value} (h : Seq w B e sz v n xs) (hB : B' ≤ B) : Seq w B' e sz v n xs := by
  refine ⟨h.1, ?_⟩
  rcases h.2 with hn | ⟨g, off, cap, cur, a, b, c⟩
  · exact .inl hn
  · exact .inr ⟨g, off, cap, cur, a, by omega, c⟩

/-- The lists behind a store into their map. -/
theorem LAt.store {w w' : World} {B lb mb n n' : Nat} {D : DataW Value} {L : LS} (h : LAt w B lb mb n D L) {s : ByteArray} {v : Value} {rs : List Rule} {B' : Nat} (hB : B ≤ B')
    (hs : Seq w B' 138 5 v rs.length (flatR rs)) (hsm : ∀ r ∈ rs, r.value.size ≤ 4294967296)
    (hown : w'.ownsMap Tryz.prog 9 tokR mb n' (D.put (keyL s) (.held v))) (hturn : w.mapTurned w' mb) : LAt w' B lb mb n' (D.put (keyL s) (.held v)) (L.put s rs) := by
  have hg := hturn.grown
  have hne : lb ≠ mb := by
    intro e
    obtain ⟨es, clock, hb, _⟩ := h.own
    rw [← e, h.cells] at hb
    cases hb
  exact {
    cells := (hg.block lb (blk_lt h.cells) (by simpa using hne)).trans h.cells
    own := hown
    ok := h.ok.put s v
    size := by
      rw [size_put (h.own.tidy (string_keyed Tryz.underlying9)), h.ok.2 s, h.isSome, LS.put_length h.apart, h.size]
    lists := fun t => by
      by_cases e : t = s
      · subst e
        exact .inr ⟨v, rs, mget_put_same h.ok.1 t v, LS.get_put_same L t rs, (hs.lower hB).grown hg (.inr (seq_ne_map (m := 0) hs h.own))⟩
      · rw [mget_put_other e, LS.get_put_other L rs e]
        rcases h.lists t with hn | ⟨u, qs, a, b, c⟩
        · exact .inl hn
        · exact .inr ⟨u, qs, a, b, c.grown hg (.inr (seq_ne_map (m := 0) c h.own))⟩
    lo := h.lo
    small := fun p hp => by
      rcases List.mem_cons.1 hp with rfl | hp
      · exact hsm
      · exact h.small p (List.mem_filter.1 hp).1
    chose := h.chose
    apart := by
      show (s :: (L.items.filter _).map (·.1)).Nodup
      rw [List.nodup_cons]
      refine ⟨fun hm => ?_, ?_⟩
      · obtain ⟨p, hp, e⟩ := List.mem_map.1 hm
        have := (List.mem_filter.1 hp).2
        simp [e] at this
      · exact (List.Sublist.map _ List.filter_sublist).nodup h.apart }

end Go.Proofs.YthbjcihdlhkboaaGreatDoor
