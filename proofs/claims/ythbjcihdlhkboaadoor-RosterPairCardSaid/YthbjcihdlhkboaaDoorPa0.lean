/- The plain law under SubsAgree and RosterPair: what one end has asked and what the other was asked agree, but for mails on their way. No program here. -/
namespace Go.Proofs.YthbjcihdlhkboaaDoor.Agree

/-- What an answerer knows (state, number), and a mail that it hears. -/
def stepI (x : Int × Int) (l : Int × Int) : Int × Int :=
  if l.1 = 1 then (1, l.2) else if l.1 = 2 then (if x.2 = l.2 then (0, 0) else x) else x
/-- What an asker knows, and a mail that it hears. -/
def stepO (x : Int × Int) (l : Int × Int) : Int × Int :=
  if l.1 = 3 then (if x.1 = 1 ∧ x.2 = l.2 then (2, x.2) else x) else if l.1 = 4 then (if x.2 = l.2 then (0, 0) else x) else x

abbrev foldI (x : Int × Int) (P : List (Int × Int)) := P.foldl stepI x
abbrev foldO (x : Int × Int) (R : List (Int × Int)) := R.foldl stepO x

/-- The numbers of the requests on their way. -/
def asks (P : List (Int × Int)) : List Int := (P.filter fun l => decide (l.1 = 1)).map (·.2)

theorem mem_asks {P : List (Int × Int)} {n : Int} : n ∈ asks P ↔ ∃ l ∈ P, l.1 = 1 ∧ l.2 = n := by
  simp [asks, and_assoc]

theorem asks_cons (l : Int × Int) (P : List (Int × Int)) : asks (l :: P) = if l.1 = 1 then l.2 :: asks P else asks P := by
  by_cases h : l.1 = 1 <;> simp [asks, h]
theorem asks_append (P Q : List (Int × Int)) : asks (P ++ Q) = asks P ++ asks Q := by simp [asks]

theorem foldI_num (P : List (Int × Int)) : ∀ x : Int × Int, (foldI x P).2 = x.2 ∨ (foldI x P).2 = 0 ∨ (foldI x P).2 ∈ asks P := by
  induction P with
  | nil => intro x; exact .inl rfl
  | cons l P ih =>
    intro x
    have e : foldI x (l :: P) = foldI (stepI x l) P := rfl
    rw [e, asks_cons]
    have h := ih (stepI x l)
    by_cases h1 : l.1 = 1
    · have es : stepI x l = (1, l.2) := by unfold stepI; rw [if_pos h1]
      rw [if_pos h1]
      rw [es] at h ⊢
      rcases h with h | h | h
      · exact .inr (.inr (by rw [h]; exact List.mem_cons_self ..))
      · exact .inr (.inl h)
      · exact .inr (.inr (List.mem_cons_of_mem _ h))
    · rw [if_neg h1]
      have es : stepI x l = x ∨ stepI x l = (0, 0) := by
        unfold stepI
        rw [if_neg h1]
        split
        · split
          · exact .inr rfl
          · exact .inl rfl
        · exact .inl rfl
      rcases es with es | es
      · rw [es] at h ⊢; exact h
      · rw [es] at h ⊢
        rcases h with h | h | h
        · exact .inr (.inl h)
        · exact .inr (.inl h)
        · exact .inr (.inr h)

theorem foldI_two (m : Int) (P : List (Int × Int)) (hm : m ≠ 0) : ∀ a b : Int × Int, (a.2 = m ∨ a = (0, 0)) → (b.2 = m ∨ b = (0, 0)) → (∀ n ∈ asks P, n ≠ m) → (∀ l ∈ P, l.2 ≠ 0) →
    (foldI a P = a ∧ foldI b P = b) ∨ (foldI a P = foldI b P ∧ (foldI a P).2 ≠ m) := by
  induction P with
  | nil => intro a b _ _ _ _; exact Or.inl (And.intro rfl rfl)
  | cons l P ih =>
    intro a b ha hb hp hz
    have hz' : ∀ l ∈ P, l.2 ≠ 0 := fun x hx => hz x (List.mem_cons_of_mem _ hx)
    have hl := hz l (List.mem_cons_self ..)
    have hp' : ∀ n ∈ asks P, n ≠ m := fun n hn => hp n (by rw [asks_cons]; split; exact List.mem_cons_of_mem _ hn; exact hn)
    show (foldI (stepI a l) P = a ∧ foldI (stepI b l) P = b) ∨ (foldI (stepI a l) P = foldI (stepI b l) P ∧ (foldI (stepI a l) P).2 ≠ m)
    by_cases h1 : l.1 = 1
    · have es : ∀ x, stepI x l = (1, l.2) := fun x => by unfold stepI; rw [if_pos h1]
      rw [es, es]
      right
      refine ⟨rfl, ?_⟩
      have hn : l.2 ≠ m := hp l.2 (by rw [asks_cons]; simp [h1])
      rcases foldI_num P (1, l.2) with h | h | h
      · rw [h]; exact hn
      · rw [h]; exact Ne.symm hm
      · exact hp' _ h
    · by_cases h2 : l.1 = 2
      · have es : ∀ x, stepI x l = if x.2 = l.2 then (0, 0) else x := fun x => by unfold stepI; rw [if_neg h1, if_pos h2]
        rw [es, es]
        by_cases h3 : l.2 = m
        · right
          have ea : (if a.2 = l.2 then ((0, 0) : Int × Int) else a) = (0, 0) := by
            rcases ha with h | h
            · rw [if_pos (by omega)]
            · subst h; simp
          have eb : (if b.2 = l.2 then ((0, 0) : Int × Int) else b) = (0, 0) := by
            rcases hb with h | h
            · rw [if_pos (by omega)]
            · subst h; simp
          rw [ea, eb]
          refine ⟨rfl, ?_⟩
          rcases foldI_num P (0, 0) with h | h | h
          · rw [h]; exact Ne.symm hm
          · rw [h]; exact Ne.symm hm
          · exact hp' _ h
        · have ea : (if a.2 = l.2 then ((0, 0) : Int × Int) else a) = a := by
            rcases ha with h | h
            · rw [if_neg (by omega)]
            · subst h; simp
          have eb : (if b.2 = l.2 then ((0, 0) : Int × Int) else b) = b := by
            rcases hb with h | h
            · rw [if_neg (by omega)]
            · subst h; simp
          rw [ea, eb]
          exact ih a b ha hb hp' hz'
      · have es : ∀ x, stepI x l = x := fun x => by unfold stepI; rw [if_neg h1, if_neg h2]
        rw [es, es]
        exact ih a b ha hb hp' hz'

theorem foldO_num (R : List (Int × Int)) : ∀ x : Int × Int, (foldO x R).2 = x.2 ∨ foldO x R = (0, 0) := by
  induction R with
  | nil => intro x; exact .inl rfl
  | cons l R ih =>
    intro x
    show (foldO (stepO x l) R).2 = _ ∨ foldO (stepO x l) R = _
    have h := ih (stepO x l)
    have hs : (stepO x l).2 = x.2 ∨ stepO x l = (0, 0) := by
      unfold stepO
      split
      · split <;> simp
      · split
        · split <;> simp
        · simp
    rcases h with h | h
    · rcases hs with hs | hs
      · exact .inl (h.trans hs)
      · rw [hs] at h ⊢
        rcases ih (0, 0) with h' | h'
        · right
          have : ∀ R : List (Int × Int), (∀ x : Int × Int, x = (0, 0) → (foldO x R).2 = 0 → True) := fun _ _ _ _ => trivial
          exact zero R
        · exact .inr h'
    · exact .inr h
where
  zero : ∀ R : List (Int × Int), foldO (0, 0) R = (0, 0) := by
    intro R
    induction R with
    | nil => rfl
    | cons l R ih =>
      show foldO (stepO (0, 0) l) R = _
      have : stepO (0, 0) l = (0, 0) := by
        unfold stepO
        split
        · simp
        · split
          · split <;> simp
          · rfl
      rw [this]; exact ih

theorem foldO_keep (n : Int) (o : Int) (R : List (Int × Int)) (h : ∀ l ∈ R, l.1 = 3 ∨ l.1 = 4 → l.2 ≠ n) : foldO (o, n) R = (o, n) := by
  induction R with
  | nil => rfl
  | cons l R ih =>
    show foldO (stepO (o, n) l) R = _
    have hl := h l (List.mem_cons_self ..)
    have : stepO (o, n) l = (o, n) := by
      unfold stepO
      by_cases h3 : l.1 = 3
      · rw [if_pos h3, if_neg]
        rintro ⟨_, h⟩
        exact hl (.inl h3) h.symm
      · rw [if_neg h3]
        by_cases h4 : l.1 = 4
        · rw [if_pos h4, if_neg]
          intro h
          exact hl (.inr h4) h.symm
        · rw [if_neg h4]
    rw [this]
    exact ih fun l hl => h l (List.mem_cons_of_mem _ hl)

/-- One direction: the asker's (o, n), the answerer's (i, m), the mails to the answerer, those to the asker, the last number. -/
structure Dir (o n i m : Int) (P R : List (Int × Int)) (next : Int) : Prop where
  eq : foldI (i, m) P = foldO (o, n) R
  o0 : o = 0 ↔ n = 0
  or : o = 0 ∨ o = 1 ∨ o = 2
  i0 : i = 0 ↔ m = 0
  ir : i = 0 ∨ i = 1 ∨ i = 2
  nn : n ≤ next
  mn : m ≤ next
  pos : 0 ≤ next
  pn : ∀ l ∈ P, l.1 = 1 ∨ l.1 = 2 → l.2 ≤ next
  rn : ∀ l ∈ R, l.1 = 3 ∨ l.1 = 4 → l.2 ≤ next
  pz : ∀ l ∈ P, l.2 ≠ 0
  rz : ∀ l ∈ R, l.2 ≠ 0
  inc : (asks P).Pairwise (· < ·)
  up : ∀ k ∈ asks P, m < k
  ap : ∀ k ∈ asks P, 0 < k

theorem Dir.start : Dir 0 0 0 0 [] [] 0 where
  eq := rfl
  o0 := by simp
  or := by simp
  i0 := by simp
  ir := by simp
  nn := by omega
  mn := by omega
  pos := by omega
  pn := by simp
  rn := by simp
  pz := by simp
  rz := by simp
  inc := by simp [asks]
  up := by simp [asks]
  ap := by simp [asks]

section
variable {o n i m next : Int} {P R : List (Int × Int)}

/-- The counter goes on. -/
theorem Dir.tick (h : Dir o n i m P R next) : Dir o n i m P R (next + 1) where
  eq := h.eq
  o0 := h.o0
  or := h.or
  i0 := h.i0
  ir := h.ir
  nn := by have := h.nn; omega
  mn := by have := h.mn; omega
  pos := by have := h.pos; omega
  pn := fun l hl hk => by have := h.pn l hl hk; omega
  rn := fun l hl hk => by have := h.rn l hl hk; omega
  pz := h.pz
  rz := h.rz
  inc := h.inc
  up := h.up
  ap := h.ap

theorem foldI_snoc (x : Int × Int) (P : List (Int × Int)) (l : Int × Int) : foldI x (P ++ [l]) = stepI (foldI x P) l := by simp [foldI]
theorem foldO_snoc (x : Int × Int) (P : List (Int × Int)) (l : Int × Int) : foldO x (P ++ [l]) = stepO (foldO x P) l := by simp [foldO]

/-- A request goes: with a number that is new. -/
theorem Dir.ask (h : Dir o n i m P R next) : Dir 1 (next + 1) i m (P ++ [(1, next + 1)]) R (next + 1) where
  eq := by
    rw [foldI_snoc, foldO_keep]
    · rfl
    · intro l hl hk
      have := h.rn l hl hk
      omega
  o0 := by have := h.pos; omega
  or := by simp
  i0 := h.i0
  ir := h.ir
  nn := by omega
  mn := by have := h.mn; omega
  pos := by have := h.pos; omega
  pn := fun l hl hk => by
    rcases List.mem_append.1 hl with hl | hl
    · have := h.pn l hl hk; omega
    · simp at hl; subst hl; simp
  rn := fun l hl hk => by have := h.rn l hl hk; omega
  pz := fun l hl => by
    rcases List.mem_append.1 hl with hl | hl
    · exact h.pz l hl
    · simp at hl; subst hl; have := h.pos; simp; omega
  rz := h.rz
  inc := by
    rw [asks_append, List.pairwise_append]
    refine ⟨h.inc, by simp [asks], ?_⟩
    intro a ha b hb
    obtain ⟨l, hl, h1, h2⟩ := mem_asks.1 ha
    have := h.pn l hl (.inl h1)
    simp [asks] at hb
    omega
  up := fun k hk => by
    rw [asks_append, List.mem_append] at hk
    rcases hk with hk | hk
    · exact h.up k hk
    · simp [asks] at hk; have := h.mn; omega
  ap := fun k hk => by
    rw [asks_append, List.mem_append] at hk
    rcases hk with hk | hk
    · exact h.ap k hk
    · simp [asks] at hk; have := h.pos; omega

/-- What was asked, or granted, is given up. -/
theorem Dir.leave (h : Dir o n i m P R next) (ho : o ≠ 0) : Dir 0 0 i m (P ++ [(2, n)]) R next where
  eq := by
    rw [foldI_snoc, foldO_num.zero, h.eq]
    rcases foldO_num R (o, n) with e | e
    · unfold stepI
      simp [e]
    · rw [e]
      unfold stepI
      simp
  o0 := by simp
  or := by simp
  i0 := h.i0
  ir := h.ir
  nn := h.pos
  mn := h.mn
  pos := h.pos
  pn := fun l hl hk => by
    rcases List.mem_append.1 hl with hl | hl
    · exact h.pn l hl hk
    · simp at hl; subst hl; exact h.nn
  rn := h.rn
  pz := fun l hl => by
    rcases List.mem_append.1 hl with hl | hl
    · exact h.pz l hl
    · simp at hl; subst hl; exact fun e => ho (h.o0.2 e)
  rz := h.rz
  inc := by
    rw [asks_append]
    simpa [asks] using h.inc
  up := fun k hk => by
    rw [asks_append] at hk
    exact h.up k (by simpa [asks] using hk)
  ap := fun k hk => by
    rw [asks_append] at hk
    exact h.ap k (by simpa [asks] using hk)

/-- It is granted. -/
theorem Dir.grant (h : Dir o n 1 m P R next) : Dir o n 2 m P (R ++ [(3, m)]) next where
  eq := by
    have hm : m ≠ 0 := fun e => by have := h.i0.2 e; omega
    rw [foldO_snoc, ← h.eq]
    rcases foldI_two m P hm (1, m) (2, m) (.inl rfl) (.inl rfl) (fun k hk => by have := h.up k hk; omega) h.pz with ⟨e1, e2⟩ | ⟨e1, e2⟩
    · rw [e1, e2]; unfold stepO; simp
    · rw [← e1]
      unfold stepO
      rw [if_pos rfl, if_neg (fun e => e2 e.2)]
  o0 := h.o0
  or := h.or
  i0 := by have := h.i0; omega
  ir := by simp
  nn := h.nn
  mn := h.mn
  pos := h.pos
  pn := h.pn
  rn := fun l hl hk => by
    rcases List.mem_append.1 hl with hl | hl
    · exact h.rn l hl hk
    · simp at hl; subst hl; exact h.mn
  pz := h.pz
  rz := fun l hl => by
    rcases List.mem_append.1 hl with hl | hl
    · exact h.rz l hl
    · simp at hl; subst hl; exact fun e => by have := h.i0.2 e; omega
  inc := h.inc
  up := h.up
  ap := h.ap

/-- It is denied, or taken back. -/
theorem Dir.deny (h : Dir o n i m P R next) (hi : i ≠ 0) : Dir o n 0 0 P (R ++ [(4, m)]) next where
  eq := by
    have hm : m ≠ 0 := fun e => hi (h.i0.2 e)
    rw [foldO_snoc, ← h.eq]
    rcases foldI_two m P hm (i, m) (0, 0) (.inl rfl) (.inr rfl) (fun k hk => by have := h.up k hk; omega) h.pz with ⟨e1, e2⟩ | ⟨e1, e2⟩
    · rw [e1, e2]; unfold stepO; simp
    · rw [← e1]
      unfold stepO
      rw [if_neg (by omega), if_pos rfl, if_neg e2]
  o0 := h.o0
  or := h.or
  i0 := by simp
  ir := by simp
  nn := h.nn
  mn := h.pos
  pos := h.pos
  pn := h.pn
  rn := fun l hl hk => by
    rcases List.mem_append.1 hl with hl | hl
    · exact h.rn l hl hk
    · simp at hl; subst hl; exact h.mn
  pz := h.pz
  rz := fun l hl => by
    rcases List.mem_append.1 hl with hl | hl
    · exact h.rz l hl
    · simp at hl; subst hl; exact fun e => hi (h.i0.2 e)
  inc := h.inc
  up := h.ap
  ap := h.ap

/-- The answerer hears the first mail on its way. -/
theorem Dir.hearP {l : Int × Int} (h : Dir o n i m (l :: P) R next) : Dir o n (stepI (i, m) l).1 (stepI (i, m) l).2 P R next where
  eq := h.eq
  o0 := h.o0
  or := h.or
  i0 := by
    have hz := h.pz l (List.mem_cons_self ..)
    have := h.i0
    unfold stepI
    split
    · simp; exact hz
    · split
      · split <;> simp [this]
      · simp [this]
  ir := by
    have := h.ir
    unfold stepI
    split
    · simp
    · split
      · split <;> simp [this]
      · simp [this]
  nn := h.nn
  mn := by
    have := h.mn
    have hp := h.pos
    unfold stepI
    by_cases h1 : l.1 = 1
    · rw [if_pos h1]; exact h.pn l (List.mem_cons_self ..) (.inl h1)
    · rw [if_neg h1]
      split
      · split <;> simp [this, hp]
      · simp [this]
  pos := h.pos
  pn := fun x hx => h.pn x (List.mem_cons_of_mem _ hx)
  rn := h.rn
  pz := fun x hx => h.pz x (List.mem_cons_of_mem _ hx)
  rz := h.rz
  inc := by
    have := h.inc
    rw [asks_cons] at this
    split at this
    · exact (List.pairwise_cons.1 this).2
    · exact this
  up := fun k hk => by
    have hu := h.up
    have hi := h.inc
    rw [asks_cons] at hu hi
    unfold stepI
    by_cases h1 : l.1 = 1
    · rw [if_pos h1] at hu hi
      rw [if_pos h1]
      exact (List.pairwise_cons.1 hi).1 k hk
    · rw [if_neg h1] at hu hi ⊢
      have := hu k hk
      split
      · split
        · exact h.ap k (by rw [asks_cons, if_neg h1]; exact hk)
        · exact this
      · exact this
  ap := fun k hk => by
    have ha := h.ap
    rw [asks_cons] at ha
    split at ha
    · exact ha k (List.mem_cons_of_mem _ hk)
    · exact ha k hk

/-- The asker hears the first mail on its way. -/
theorem Dir.hearR {l : Int × Int} (h : Dir o n i m P (l :: R) next) : Dir (stepO (o, n) l).1 (stepO (o, n) l).2 i m P R next where
  eq := h.eq
  o0 := by
    have hz := h.rz l (List.mem_cons_self ..)
    have := h.o0
    unfold stepO
    split
    · split
      · rename_i e; simp at e; simp; omega
      · simp [this]
    · split
      · split <;> simp [this]
      · simp [this]
  or := by
    have := h.or
    unfold stepO
    split
    · split <;> simp [this]
    · split
      · split <;> simp [this]
      · simp [this]
  i0 := h.i0
  ir := h.ir
  nn := by
    have := h.nn
    have hp := h.pos
    unfold stepO
    split
    · split <;> simp [this]
    · split
      · split <;> simp [this, hp]
      · simp [this]
  mn := h.mn
  pos := h.pos
  pn := h.pn
  rn := fun x hx => h.rn x (List.mem_cons_of_mem _ hx)
  pz := h.pz
  rz := fun x hx => h.rz x (List.mem_cons_of_mem _ hx)
  inc := h.inc
  up := h.up
  ap := h.ap

/-- A mail that is none of this direction's goes behind the others. -/
theorem Dir.moreP (h : Dir o n i m P R next) (l : Int × Int) (h1 : l.1 = 3 ∨ l.1 = 4) (hz : l.2 ≠ 0) : Dir o n i m (P ++ [l]) R next where
  eq := by
    rw [foldI_snoc, h.eq]
    unfold stepI
    rw [if_neg (by omega), if_neg (by omega)]
  o0 := h.o0
  or := h.or
  i0 := h.i0
  ir := h.ir
  nn := h.nn
  mn := h.mn
  pos := h.pos
  pn := fun x hx hk => by
    rcases List.mem_append.1 hx with hx | hx
    · exact h.pn x hx hk
    · simp at hx; subst hx; omega
  rn := h.rn
  pz := fun x hx => by
    rcases List.mem_append.1 hx with hx | hx
    · exact h.pz x hx
    · simp at hx; subst hx; exact hz
  rz := h.rz
  inc := by
    rw [asks_append, asks_cons, if_neg (by omega)]
    simpa [asks] using h.inc
  up := fun k hk => by
    rw [asks_append, asks_cons, if_neg (by omega)] at hk
    exact h.up k (by simpa [asks] using hk)
  ap := fun k hk => by
    rw [asks_append, asks_cons, if_neg (by omega)] at hk
    exact h.ap k (by simpa [asks] using hk)

theorem Dir.moreR (h : Dir o n i m P R next) (l : Int × Int) (h1 : l.1 = 1 ∨ l.1 = 2) (hz : l.2 ≠ 0) : Dir o n i m P (R ++ [l]) next where
  eq := by
    rw [foldO_snoc, h.eq]
    unfold stepO
    rw [if_neg (by omega), if_neg (by omega)]
  o0 := h.o0
  or := h.or
  i0 := h.i0
  ir := h.ir
  nn := h.nn
  mn := h.mn
  pos := h.pos
  pn := h.pn
  rn := fun x hx hk => by
    rcases List.mem_append.1 hx with hx | hx
    · exact h.rn x hx hk
    · simp at hx; subst hx; omega
  pz := h.pz
  rz := fun x hx => by
    rcases List.mem_append.1 hx with hx | hx
    · exact h.rz x hx
    · simp at hx; subst hx; exact hz
  inc := h.inc
  up := h.up
  ap := h.ap

/-- When nothing is on its way, both know the same. -/
theorem Dir.done (h : Dir o n i m [] [] next) : o = i ∧ n = m := by
  have := h.eq
  simp [foldI, foldO] at this
  omega
end
end Go.Proofs.YthbjcihdlhkboaaDoor.Agree
