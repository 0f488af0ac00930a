/- A region that draws its order, by one invariant: each operation is shown once, whatever has come up ahead of it. Over any program. -/
import Derived.Orders
namespace Go.Proofs.YthbjcihdlhkboaaGreatDoor
set_option linter.unusedSimpArgs false
set_option linter.unusedVariables false

namespace Reg

def anc (A : List (List Nat)) (i k : Nat) : Bool := (A.getD i []).contains k

/-- The slots that an operation looks at. -/
def looks (ops : Array Oper) (o : Oper) : List Nat :=
  o.op.operands.toList.filterMap (fun x => match x with | .tmp t => some t | _ => none)

def writer (ops : Array Oper) (t : Nat) : Option Nat := (List.range ops.size).find? (fun k => ((ops[k]?).bind (·.dst)) == some t)

def dsts (ops : Array Oper) : List Nat := ops.toList.filterMap (·.dst)

def nodupB : List Nat → Bool
  | [] => true
  | x :: xs => !xs.contains x && nodupB xs

/-- The plan fits: what is waited for lies ahead; no slot is written twice; who reads a slot that another one writes waits for it, or is waited for. -/
def okB (ops : Array Oper) (A : List (List Nat)) (N : Nat) : Bool :=
  Region.noSelect ops && nodupB (dsts ops) && (dsts ops).all (fun t => decide (t < N)) &&
  (List.range ops.size).all (fun i => match ops[i]? with
    | none => true
    | some o => o.after.all (fun e => !Region.binds .any e || decide (e.on < i)) &&
      (A.getD i []).all (fun k => o.after.any (fun e => Region.binds .any e && (e.on == k || anc A e.on k))) &&
      (looks ops o).all (fun t => match writer ops t with | none => true | some k => anc A i k || anc A k i) &&
      (match o.guard with | none => true | some (g, _) => anc A i g && ((ops[g]?).bind (·.dst)).isSome))

section
variable (P : Program) (ops : Array Oper) (A : List (List Nat)) (a0 : Act) (effs : List Nat) (val : Nat → (Nat → Value) → Value)

def mask (k : Nat) (rs : Nat → Option Value) : Nat → Value := fun j => if anc A k j then (rs j).getD undef else undef
/-- The value that operation k leaves. -/
def V (rs : Nat → Option Value) (k : Nat) : Value := if effs.contains k then (rs k).getD undef else val k (mask A k rs)
/-- What operation i sees in slot t. -/
def seen (rs : Nat → Option Value) (i t : Nat) : Value :=
  match writer ops t with
  | some k => if anc A i k then V A effs val rs k else a0.eval (.tmp t)
  | none => a0.eval (.tmp t)
def wantedV (o : Oper) (rs : Nat → Option Value) : Bool :=
  match o.guard with
  | none => true
  | some (g, b) => match V A effs val rs g with | .bool x => x == b | _ => false
def upd (rs : Nat → Option Value) (i : Nat) (v : Value) : Nat → Option Value := fun j => if j = i then some v else rs j
/-- All have come up. -/
def fin (rs : Nat → Option Value) : Act := (List.range ops.size).foldl (fun a k => a.put ((ops[k]?).bind (·.dst)) (V A effs val rs k)) a0

/-- What is to be shown of operation i. -/
def Ob (Q : Exit → Act → World → Prop) (Stage : (Nat → Option Value) → World → Prop) (i : Nat) : Prop :=
  ∀ o, ops[i]? = some o → ∀ rs w a, Stage rs w → (∀ j ∈ effs, anc A i j = true → ∃ v, rs j = some v) → rs i = none → (∀ j, anc A j i = true → rs j = none) →
    (∀ t ∈ looks ops o, a.eval (.tmp t) = seen ops A a0 effs val rs i t) → a.defers = a0.defers →
    if wantedV A effs val o rs = true then
      if effs.contains i = true then o.wp P a w (fun a' w' => ∃ v, a' = a.put o.dst v ∧ Stage (upd rs i v) w') Q ∨ (o.asks P a w ∧ LetsOut Q)
      else (execOp a.eval o).run P w = .ok (.value (val i (mask A i rs))) w
    else if effs.contains i = true then Stage (upd rs i undef) w else val i (mask A i rs) = undef

variable {P} {ops} {A} {a0} {effs} {val}

theorem nodupB_spec : ∀ {l : List Nat}, nodupB l = true → l.Nodup
  | [], _ => List.nodup_nil
  | x :: xs, h => by
    simp only [nodupB, Bool.and_eq_true, Bool.not_eq_true', List.contains_eq_mem, decide_eq_false_iff_not] at h
    exact List.nodup_cons.2 ⟨h.1, nodupB_spec h.2⟩

/-- What has come up is closed under waiting. -/
def Closed (ops : Array Oper) (listed : Array Bool) : Prop :=
  ∀ j o, ops[j]? = some o → listed.getD j false = true → ∀ e ∈ o.after, Region.binds .any e = true → listed.getD e.on false = true

structure Ok (ops : Array Oper) (A : List (List Nat)) (N : Nat) : Prop where
  sel : Region.noSelect ops = true
  nodup : (dsts ops).Nodup
  lt : ∀ t ∈ dsts ops, t < N
  back : ∀ i o, ops[i]? = some o → ∀ e ∈ o.after, Region.binds .any e = true → e.on < i
  anc : ∀ i o, ops[i]? = some o → ∀ k, anc A i k = true → ∃ e ∈ o.after, Region.binds .any e = true ∧ (e.on = k ∨ Reg.anc A e.on k = true)
  look : ∀ i o, ops[i]? = some o → ∀ t ∈ looks ops o, ∀ k, writer ops t = some k → Reg.anc A i k = true ∨ Reg.anc A k i = true
  guard : ∀ i o g b, ops[i]? = some o → o.guard = some (g, b) → Reg.anc A i g = true ∧ ∃ t, (ops[g]?).bind (·.dst) = some t

theorem ok_of {N : Nat} (h : okB ops A N = true) : Ok ops A N := by
  simp only [okB, Bool.and_eq_true, List.all_eq_true, List.mem_range, decide_eq_true_eq] at h
  obtain ⟨⟨⟨h1, h2⟩, h3⟩, h4⟩ := h
  have h5 : ∀ i o, ops[i]? = some o → _ := fun i o ho => by
    have := h4 i (Array.getElem?_eq_some_iff.1 ho).1
    rw [ho] at this
    simpa only [Bool.and_eq_true, Array.all_eq_true_iff_forall_mem, List.all_eq_true, Array.any_eq_true', Bool.or_eq_true, Bool.not_eq_true', decide_eq_true_eq, beq_iff_eq] using this
  refine ⟨h1, nodupB_spec h2, h3, fun i o ho e he hb => ?_, fun i o ho k hk => ?_, fun i o ho t ht k hk => ?_, fun i o g b ho hg => ?_⟩
  · rcases (h5 i o ho).1.1.1 e he with h | h
    · rw [hb] at h; cases h
    · exact h
  · have := (h5 i o ho).1.1.2 k (by simpa [Reg.anc] using hk)
    obtain ⟨e, he, hb, hk⟩ := this
    exact ⟨e, he, hb, hk⟩
  · have := (h5 i o ho).1.2 t ht
    rw [hk] at this
    simpa using this
  · have := (h5 i o ho).2
    rw [hg] at this
    simp only [Bool.and_eq_true] at this
    exact ⟨this.1, Option.isSome_iff_exists.1 this.2⟩

theorem writer_spec {t k : Nat} (h : writer ops t = some k) : (ops[k]?).bind (·.dst) = some t := by
  unfold writer at h
  have := List.find?_some h
  simpa using this

theorem mem_dsts {k t : Nat} (h : (ops[k]?).bind (·.dst) = some t) : t ∈ dsts ops := by
  unfold dsts
  rw [List.mem_filterMap]
  cases ho : ops[k]? with
  | none => rw [ho] at h; cases h
  | some o => rw [ho] at h; exact ⟨o, by rw [Array.mem_toList_iff]; exact Array.mem_of_getElem? ho, h⟩

theorem nodup_idx : ∀ {l : List Oper}, (l.filterMap (·.dst)).Nodup → ∀ {i j t : Nat}, (l[i]?).bind (fun o => o.dst) = some t → (l[j]?).bind (fun o => o.dst) = some t → i = j
  | [], _, i, j, t, h, _ => by simp at h
  | o :: l, hn, i, j, t, hi, hj => by
    have key : ∀ {m : Nat}, (l[m]?).bind (fun o => o.dst) = some t → t ∈ l.filterMap (·.dst) := fun {m} hm => by
      rw [List.mem_filterMap]
      cases ho : l[m]? with
      | none => rw [ho] at hm; cases hm
      | some o => rw [ho] at hm; exact ⟨o, List.mem_of_getElem? ho, hm⟩
    cases i with
    | zero =>
      cases j with
      | zero => rfl
      | succ j =>
        simp at hi hj
        rw [List.filterMap_cons, hi] at hn
        exact absurd (key hj) (List.nodup_cons.1 hn).1
    | succ i =>
      cases j with
      | zero =>
        simp at hi hj
        rw [List.filterMap_cons, hj] at hn
        exact absurd (key hi) (List.nodup_cons.1 hn).1
      | succ j =>
        simp at hi hj
        have hn' : (l.filterMap (·.dst)).Nodup := by
          rw [List.filterMap_cons] at hn
          cases hd : o.dst with
          | none => rw [hd] at hn; exact hn
          | some d => rw [hd] at hn; exact (List.nodup_cons.1 hn).2
        rw [nodup_idx hn' hi hj]

theorem dst_inj {N : Nat} (H : Ok ops A N) {i j t : Nat} (hi : (ops[i]?).bind (·.dst) = some t) (hj : (ops[j]?).bind (·.dst) = some t) : i = j :=
  nodup_idx (l := ops.toList) H.nodup (by simpa using hi) (by simpa using hj)

theorem writer_of {N : Nat} (H : Ok ops A N) {k t : Nat} (h : (ops[k]?).bind (·.dst) = some t) : writer ops t = some k := by
  cases hw : writer ops t with
  | none =>
    unfold writer at hw
    have := List.find?_eq_none.1 hw k (List.mem_range.2 (by
      cases ho : ops[k]? with
      | none => rw [ho] at h; cases h
      | some o => exact (Array.getElem?_eq_some_iff.1 ho).1))
    simp [h] at this
  | some j => rw [dst_inj H (writer_spec hw) h]

theorem closed_anc {N : Nat} (H : Ok ops A N) {listed : Array Bool} (hs : listed.size = ops.size) (hc : Closed ops listed) :
    ∀ (i : Nat) (o : Oper), ops[i]? = some o → (∀ e ∈ o.after, Region.binds .any e = true → listed.getD e.on false = true) → ∀ k, anc A i k = true → listed.getD k false = true := by
  intro i
  induction i using Nat.strongRecOn with
  | _ i ih =>
    intro o ho hall k hk
    obtain ⟨e, he, hb, h⟩ := H.anc i o ho k hk
    have hl := hall e he hb
    rcases h with rfl | h
    · exact hl
    · have hlt : e.on < ops.size := by
        rcases Nat.lt_or_ge e.on listed.size with h' | h'
        · omega
        · simp [Array.getElem?_eq_none h'] at hl
      exact ih e.on (H.back i o ho e he hb) _ (Array.getElem?_eq_getElem hlt) (hc e.on _ (Array.getElem?_eq_getElem hlt) hl) k h

/-- How things stand when these have come up. -/
structure Inv (ops : Array Oper) (A : List (List Nat)) (a0 : Act) (effs : List Nat) (val : Nat → (Nat → Value) → Value) (Stage : (Nat → Option Value) → World → Prop) (listed : Array Bool) (rs : Nat → Option Value) (a : Act) (w : World) : Prop where
  size : listed.size = ops.size
  closed : Closed ops listed
  defers : a.defers = a0.defers
  tsize : a.tmps.size = a0.tmps.size
  stage : Stage rs w
  some : ∀ k ∈ effs, listed.getD k false = true → ∃ v, rs k = some v
  none : ∀ k, listed.getD k false = false → rs k = none
  tmps : ∀ t : Nat, a.tmps[t]? = match writer ops t with
    | .some k => if listed.getD k false = true then Option.some (V A effs val rs k) else a0.tmps[t]?
    | .none => a0.tmps[t]?

theorem V_upd {rs : Nat → Option Value} {i k : Nat} {v : Value} (h1 : i ≠ k) (h2 : anc A k i = false) : V A effs val (upd rs i v) k = V A effs val rs k := by
  unfold V
  have e1 : upd rs i v k = rs k := by unfold upd; rw [if_neg (fun e => h1 e.symm)]
  have e2 : mask A k (upd rs i v) = mask A k rs := by
    funext j
    unfold mask upd
    by_cases e : j = i
    · subst e; rw [h2]; rfl
    · rw [if_neg e]
  rw [e1, e2]

theorem closed_set {N : Nat} (H : Ok ops A N) {listed : Array Bool} {i : Nat} {o : Oper} (ho : ops[i]? = some o) (hc : Closed ops listed) (hall : ∀ e ∈ o.after, Region.binds .any e = true → listed.getD e.on false = true) :
    Closed ops (listed.setIfInBounds i true) := by
  intro j oj hj hl e he hb
  by_cases hij : i = j
  · subst hij
    rw [ho] at hj
    cases hj
    exact getD_set_true (hall e he hb)
  · rw [getD_set_ne false hij] at hl
    exact getD_set_true (hc j oj hj hl e he hb)

theorem eval_of {N : Nat} (H : Ok ops A N) {Stage : (Nat → Option Value) → World → Prop} {listed : Array Bool} {rs : Nat → Option Value} {a : Act} {w : World} (h : Inv ops A a0 effs val Stage listed rs a w)
    {i : Nat} {o : Oper} (ho : ops[i]? = some o) (hun : listed.getD i true = false) (hall : ∀ e ∈ o.after, Region.binds .any e = true → listed.getD e.on false = true) :
    ∀ t ∈ looks ops o, a.eval (.tmp t) = seen ops A a0 effs val rs i t := by
  intro t ht
  have htm := h.tmps t
  unfold seen
  cases hw : writer ops t with
  | none =>
    rw [hw] at htm
    simp only at htm ⊢
    simp only [Act.eval, Array.getD_eq_getD_getElem?, htm]
  | some k =>
    rw [hw] at htm
    simp only at htm ⊢
    rcases H.look i o ho t ht k hw with hk | hk
    · have hl := closed_anc H h.size h.closed i o ho hall k hk
      rw [if_pos hl] at htm
      rw [if_pos hk]
      simp only [Act.eval, Array.getD_eq_getD_getElem?, htm, Option.getD_some]
    · have hl : listed.getD k false = false := by
        cases hb : listed.getD k false with
        | false => rfl
        | true =>
          have hlt : k < ops.size := by
            rcases Nat.lt_or_ge k listed.size with h' | h'
            · have := h.size; omega
            · simp [Array.getElem?_eq_none h'] at hb
          have := closed_anc H h.size h.closed k _ (Array.getElem?_eq_getElem hlt) (h.closed k _ (Array.getElem?_eq_getElem hlt) hb) i hk
          have hlt2 := (Array.getElem?_eq_some_iff.1 ho).1
          have hs := h.size
          simp [show i < listed.size by omega] at this hun
          rw [hun] at this; cases this
      rw [hl] at htm
      simp only [Bool.false_eq_true, if_false] at htm
      by_cases hik : anc A i k = true
      · have := closed_anc H h.size h.closed i o ho hall k hik
        rw [hl] at this; cases this
      · rw [if_neg hik]
        simp only [Act.eval, Array.getD_eq_getD_getElem?, htm]

theorem wanted_of {N : Nat} (H : Ok ops A N) {Stage : (Nat → Option Value) → World → Prop} {listed : Array Bool} {rs : Nat → Option Value} {a : Act} {w : World} (h : Inv ops A a0 effs val Stage listed rs a w)
    {i : Nat} {o : Oper} (ho : ops[i]? = some o) (hall : ∀ e ∈ o.after, Region.binds .any e = true → listed.getD e.on false = true) :
    Region.wanted o (yielded ops a.tmps) = wantedV A effs val o rs := by
  unfold Region.wanted wantedV
  cases hg : o.guard with
  | none => rfl
  | some gb =>
    obtain ⟨g, b⟩ := gb
    obtain ⟨hag, t, ht⟩ := H.guard i o g b ho hg
    have hl := closed_anc H h.size h.closed i o ho hall g hag
    have htm := h.tmps t
    rw [writer_of H ht] at htm
    simp only [hl, if_true] at htm
    simp only [yielded, ht, Option.bind_some, htm]
    cases hv : V A effs val rs g <;> simp

theorem inv_step {N : Nat} (H : Ok ops A N) (hN : N = a0.tmps.size) {Stage : (Nat → Option Value) → World → Prop} {listed : Array Bool} {rs : Nat → Option Value} {a : Act} {w : World} (h : Inv ops A a0 effs val Stage listed rs a w)
    {i : Nat} {o : Oper} (ho : ops[i]? = some o) (hun : listed.getD i true = false) (hall : ∀ e ∈ o.after, Region.binds .any e = true → listed.getD e.on false = true)
    {rs' : Nat → Option Value} {w' : World} {v : Value} (hv : v = V A effs val rs' i) (hrs : (effs.contains i = true ∧ rs' = upd rs i v) ∨ (effs.contains i = false ∧ rs' = rs)) (hst : Stage rs' w') :
    Inv ops A a0 effs val Stage (listed.setIfInBounds i true) rs' (a.put o.dst v) w' := by
  have hi : i < listed.size := by have := h.size; have := (Array.getElem?_eq_some_iff.1 ho).1; omega
  have hget : (listed.setIfInBounds i true).getD i false = true := by simp [hi]
  have hother : ∀ k, k ≠ i → (listed.setIfInBounds i true).getD k false = listed.getD k false := fun k hk => getD_set_ne false (fun e => hk e.symm)
  have hVk : ∀ k, k ≠ i → listed.getD k false = true → V A effs val rs' k = V A effs val rs k := by
    intro k hk hl
    rcases hrs with ⟨_, rfl⟩ | ⟨_, rfl⟩
    · have hlt : k < ops.size := by
        rcases Nat.lt_or_ge k listed.size with h' | h'
        · have := h.size; omega
        · simp [Array.getElem?_eq_none h'] at hl
      refine V_upd (Ne.symm hk) ?_
      cases hb : anc A k i with
      | false => rfl
      | true =>
        have := closed_anc H h.size h.closed k _ (Array.getElem?_eq_getElem hlt) (h.closed k _ (Array.getElem?_eq_getElem hlt) hl) i hb
        simp [hi] at this hun
        rw [hun] at this; cases this
    · rfl
  exact {
    size := by simpa using h.size
    closed := closed_set H ho h.closed hall
    defers := by cases hd : o.dst <;> simp [Act.put, hd, h.defers]
    tsize := by cases hd : o.dst <;> simp [Act.put, hd, h.tsize]
    stage := hst
    some := fun k hk hl => by
      by_cases e : k = i
      · subst e
        rcases hrs with ⟨_, rfl⟩ | ⟨he, _⟩
        · exact ⟨v, by simp [upd]⟩
        · have : effs.contains k = true := by simpa using hk
          rw [he] at this; cases this
      · rw [hother k e] at hl
        obtain ⟨u, hu⟩ := h.some k hk hl
        rcases hrs with ⟨_, rfl⟩ | ⟨_, rfl⟩
        · exact ⟨u, by unfold upd; rw [if_neg e]; exact hu⟩
        · exact ⟨u, hu⟩
    none := fun k hl => by
      by_cases e : k = i
      · subst e; rw [hget] at hl; cases hl
      · rw [hother k e] at hl
        rcases hrs with ⟨_, rfl⟩ | ⟨_, rfl⟩
        · unfold upd; rw [if_neg e]; exact h.none k hl
        · exact h.none k hl
    tmps := fun t => by
      have htm := h.tmps t
      cases hw : writer ops t with
      | none =>
        rw [hw] at htm
        simp only at htm ⊢
        rw [← htm]
        cases hd : o.dst with
        | none => rfl
        | some d =>
          have hne : d ≠ t := by
            rintro rfl
            have := writer_of H (k := i) (t := d) (by rw [ho]; exact hd)
            rw [hw] at this; cases this
          simp [Act.put, Array.getElem?_setIfInBounds_ne hne]
      | some k =>
        rw [hw] at htm
        simp only at htm ⊢
        by_cases e : k = i
        · subst e
          have hd : o.dst = some t := by have := writer_spec hw; rw [ho] at this; exact this
          have hlt : t < a.tmps.size := by
            rw [h.tsize, ← hN]
            exact H.lt t (mem_dsts (k := k) (by rw [ho]; exact hd))
          rw [if_pos hget, ← hv]
          simp [Act.put, hd, hlt]
        · rw [hother k e]
          have hnd : o.dst ≠ some t := by
            intro hd
            exact e (dst_inj H (writer_spec hw) (by rw [ho]; exact hd))
          have hp : (a.put o.dst v).tmps[t]? = a.tmps[t]? := by
            cases hd : o.dst with
            | none => rfl
            | some d =>
              have hne : d ≠ t := by rintro rfl; exact hnd hd
              simp [Act.put, Array.getElem?_setIfInBounds_ne hne]
          rw [hp, htm]
          cases hl : listed.getD k false with
          | false => simp
          | true => simp only [if_true]; rw [hVk k e hl] }

/-- All has come up: the frame is known. -/
theorem inv_end {N : Nat} (H : Ok ops A N) (hN : N = a0.tmps.size) {Stage : (Nat → Option Value) → World → Prop} {listed : Array Bool} {rs : Nat → Option Value} {a : Act} {w : World} (h : Inv ops A a0 effs val Stage listed rs a w)
    (hr : Region.ready .any ops listed = []) : (∀ k ∈ effs, k < ops.size → ∃ v, rs k = some v) ∧ a = fin ops A a0 effs val rs := by
  have hall : ∀ k, k < ops.size → listed.getD k false = true := by
    intro k
    induction k using Nat.strongRecOn with
    | _ k ih =>
      intro hk
      cases hb : listed.getD k false with
      | true => rfl
      | false =>
        have hs := h.size
        have hmem : k ∈ Region.ready .any ops listed := by
          rw [mem_ready]
          refine ⟨by simp [show k < listed.size by omega] at hb ⊢; exact hb, ops[k], Array.getElem?_eq_getElem hk, fun e he hbd => ?_⟩
          have := H.back k _ (Array.getElem?_eq_getElem hk) e he hbd
          exact ih e.on this (by omega)
        rw [hr] at hmem; cases hmem
  refine ⟨fun k hk hlt => h.some k hk (hall k hlt), ?_⟩
  have hputs : ∀ (l : List Nat) (b : Act), (l.foldl (fun a k => a.put ((ops[k]?).bind (·.dst)) (V A effs val rs k)) b).defers = b.defers ∧ (l.foldl (fun a k => a.put ((ops[k]?).bind (·.dst)) (V A effs val rs k)) b).tmps.size = b.tmps.size := by
    intro l
    induction l with
    | nil => intro b; exact ⟨rfl, rfl⟩
    | cons x l ih =>
      intro b
      rw [List.foldl_cons]
      refine ⟨(ih _).1.trans ?_, (ih _).2.trans ?_⟩ <;> cases (ops[x]?).bind (·.dst) <;> simp [Act.put]
  have hget : ∀ (l : List Nat) (b : Act) (t : Nat), b.tmps.size = a0.tmps.size → (l.foldl (fun a k => a.put ((ops[k]?).bind (·.dst)) (V A effs val rs k)) b).tmps[t]? = match writer ops t with
      | .some k => if k ∈ l then Option.some (V A effs val rs k) else b.tmps[t]?
      | .none => b.tmps[t]? := by
    intro l
    induction l with
    | nil => intro b t _; cases writer ops t <;> simp
    | cons x l ih =>
      intro b t hb
      rw [List.foldl_cons, ih _ t (by rw [← hb]; cases (ops[x]?).bind (·.dst) <;> simp [Act.put])]
      cases hw : writer ops t with
      | none =>
        simp only
        cases hd : (ops[x]?).bind (·.dst) with
        | none => rfl
        | some d =>
          have hne : d ≠ t := by
            rintro rfl
            rw [writer_of H hd] at hw; cases hw
          simp [Act.put, Array.getElem?_setIfInBounds_ne hne]
      | some k =>
        simp only [List.mem_cons]
        by_cases hkl : k ∈ l
        · simp [hkl]
        · simp only [hkl, if_false, or_false]
          by_cases e : k = x
          · subst e
            have hd := writer_spec hw
            have hlt : t < b.tmps.size := by rw [hb, ← hN]; exact H.lt t (mem_dsts hd)
            simp [hd, Act.put, hlt]
          · simp only [e, if_false]
            cases hd : (ops[x]?).bind (·.dst) with
            | none => rfl
            | some d =>
              have hne : d ≠ t := by
                rintro rfl
                exact e (dst_inj H (writer_spec hw) hd)
              simp [Act.put, Array.getElem?_setIfInBounds_ne hne]
  have e1 : a.tmps = (fin ops A a0 effs val rs).tmps := by
    apply Array.ext_getElem?
    intro t
    rw [h.tmps t]
    unfold fin
    rw [hget _ a0 t rfl]
    cases hw : writer ops t with
    | none => rfl
    | some k =>
      have hlt : k < ops.size := by
        have := writer_spec hw
        cases ho : ops[k]? with
        | none => rw [ho] at this; cases this
        | some o => exact (Array.getElem?_eq_some_iff.1 ho).1
      simp only [hall k hlt, if_true, List.mem_range, hlt]
  have e2 : a.defers = (fin ops A a0 effs val rs).defers := h.defers.trans (by unfold fin; exact ((hputs _ a0).1).symm)
  cases a
  simp only at e1 e2
  subst e1
  subst e2
  rfl

theorem count_set {listed : Array Bool} {i : Nat} (hi : i < listed.size) (hun : listed.getD i true = false) : (listed.setIfInBounds i true).toList.count false + 1 = listed.toList.count false := by
  have e : listed[i] = false := by simpa [hi] using hun
  have e3 : 0 < listed.toList.count false := List.count_pos_iff.2 (by rw [← e]; exact Array.getElem_mem_toList hi)
  rw [Array.toList_setIfInBounds, List.count_set (by simpa using hi)]
  simp [e]
  rw [← Array.count_toList]
  omega

/-- **A region that draws its order, by what each operation is shown to do, once.** -/
theorem wp_region {Q : Exit → Act → World → Prop} {Stage : (Nat → Option Value) → World → Prop} {id N : Nat} {w : World} (hm : P.follows .mixedOrders = true) (hok : okB ops A N = true) (hN : N = a0.tmps.size)
    (h0 : Stage (fun _ => none) { w with drawn := w.drawn + 1 })
    (hob : ∀ i, i < ops.size → Ob P ops A a0 effs val Q Stage i)
    (hend : ∀ rs w, Stage rs w → (∀ k ∈ effs, k < ops.size → ∃ v, rs k = some v) → Q .normal (fin ops A a0 effs val rs) w) : (Code.region id ops true).wp P Q a0 w := by
  have H := ok_of hok
  refine wp_region_any hm ?_
  have main : ∀ (fuel : Nat) (listed : Array Bool) (rs : Nat → Option Value) (a : Act) (w : World), Inv ops A a0 effs val Stage listed rs a w → listed.toList.count false ≤ fuel → wpAny P .any ops Q fuel listed a w := by
    intro fuel
    induction fuel with
    | zero =>
      intro listed rs a w h hf
      have hr : Region.ready .any ops listed = [] := by
        cases hh : Region.ready .any ops listed with
        | nil => rfl
        | cons j js =>
          exfalso
          have hj : j ∈ Region.ready .any ops listed := by rw [hh]; exact List.mem_cons_self ..
          obtain ⟨h1, o, ho, _⟩ := mem_ready.1 hj
          have hlt : j < listed.size := by have := h.size; have := (Array.getElem?_eq_some_iff.1 ho).1; omega
          have := count_set hlt h1
          omega
      obtain ⟨e1, e2⟩ := inv_end H hN h hr
      exact ⟨hr, by rw [e2]; exact hend rs w h.stage e1⟩
    | succ fuel ih =>
      intro listed rs a w h hf
      refine ⟨fun hr => ?_, fun i hi => ?_⟩
      · obtain ⟨e1, e2⟩ := inv_end H hN h hr
        rw [e2]; exact hend rs w h.stage e1
      · obtain ⟨hun, o, ho, hall⟩ := mem_ready.1 hi
        have hlt : i < listed.size := by have := h.size; have := (Array.getElem?_eq_some_iff.1 ho).1; omega
        have hcnt := count_set hlt hun
        have hnone : rs i = none := h.none i (by simp [hlt] at hun ⊢; exact hun)
        have hlater : ∀ j, anc A j i = true → rs j = none := by
          intro j hj
          cases hl : listed.getD j false with
          | false => exact h.none j hl
          | true =>
            exfalso
            have hjs : j < ops.size := by
              rcases Nat.lt_or_ge j listed.size with h' | h'
              · have := h.size; omega
              · simp [Array.getElem?_eq_none h'] at hl
            have := closed_anc H h.size h.closed j _ (Array.getElem?_eq_getElem hjs) (h.closed j _ (Array.getElem?_eq_getElem hjs) hl) i hj
            simp [hlt] at this hun
            rw [hun] at this; cases this
        have hO := hob i (Array.getElem?_eq_some_iff.1 ho).1 o ho rs w a h.stage (fun j hj ha => h.some j hj (closed_anc H h.size h.closed i o ho hall j ha)) hnone hlater (eval_of H h ho hun hall) h.defers
        unfold wpOp
        simp only [ho]
        rw [wanted_of H h ho hall]
        cases hwn : wantedV A effs val o rs with
        | true =>
          rw [hwn] at hO
          simp only [if_true] at hO ⊢
          cases he : effs.contains i with
          | true =>
            rw [he] at hO
            simp only [if_true] at hO
            refine hO.imp (fun hO => Oper.wp_mono (fun a' w' ⟨v, ha, hst⟩ => ?_) hO) _root_.id
            rw [ha]
            exact ih _ _ _ _ (inv_step H hN h ho hun hall (v := v) (by unfold V; rw [if_pos he]; simp [upd]) (.inl ⟨he, rfl⟩) hst) (by omega)
          | false =>
            rw [he] at hO
            simp only [Bool.false_eq_true, if_false] at hO
            left
            simp only [Oper.wp, hO, Oper.upon]
            exact ih _ _ _ _ (inv_step H hN h ho hun hall (v := val i (mask A i rs)) (rs' := rs) (by unfold V; rw [if_neg (by rw [he]; simp)]) (.inr ⟨he, rfl⟩) h.stage) (by omega)
        | false =>
          rw [hwn] at hO
          simp only [Bool.false_eq_true, if_false] at hO ⊢
          cases he : effs.contains i with
          | true =>
            rw [he] at hO
            simp only [if_true] at hO
            exact ih _ _ _ _ (inv_step H hN h ho hun hall (v := undef) (by unfold V; rw [if_pos he]; simp [upd]) (.inl ⟨he, rfl⟩) hO) (by omega)
          | false =>
            rw [he] at hO
            simp only [Bool.false_eq_true, if_false] at hO
            rw [← hO]
            exact ih _ _ _ _ (inv_step H hN h ho hun hall (v := val i (mask A i rs)) (rs' := rs) (by unfold V; rw [if_neg (by rw [he]; simp)]) (.inr ⟨he, rfl⟩) h.stage) (by omega)
  refine main _ _ (fun _ => none) _ _ ?_ (by simp)
  exact {
    size := by simp
    closed := fun j o _ hl => by simp [Array.getElem?_replicate] at hl; split at hl <;> simp at hl
    defers := rfl
    tsize := rfl
    stage := h0
    some := fun k _ hl => by simp [Array.getElem?_replicate] at hl; split at hl <;> simp at hl
    none := fun _ _ => rfl
    tmps := fun t => by
      have : ∀ k, (Array.replicate ops.size false).getD k false = false := fun k => by simp [Array.getElem?_replicate]; split <;> simp
      cases writer ops t <;> simp only [this] <;> simp }


/-- An operation that reckons or reads. -/
theorem Ob.pure {Q : Exit → Act → World → Prop} {Stage : (Nat → Option Value) → World → Prop} {i : Nat} {o : Oper} (ho : ops[i]? = some o) (hg : o.guard = none) (he : effs.contains i = false) (v : (Nat → Option Value) → Value)
    (hv : ∀ rs, val i (mask A i rs) = v rs)
    (h : ∀ rs w (a : Act), Stage rs w → (∀ j ∈ effs, anc A i j = true → ∃ v, rs j = some v) → (∀ j, anc A j i = true → rs j = none) → (∀ t ∈ looks ops o, (a.tmps[t]?).getD undef = seen ops A a0 effs val rs i t) → (execOp a.eval o).run P w = .ok (.value (v rs)) w) :
    Ob P ops A a0 effs val Q Stage i := by
  intro o' ho' rs w a hs hd hn hl hk hdf
  rw [ho] at ho'
  cases ho'
  have hw : wantedV A effs val o rs = true := by unfold wantedV; rw [hg]
  rw [if_pos hw, if_neg (by rw [he]; simp), hv]
  exact h rs w a hs hd hl (fun t ht => by rw [← hk t ht]; simp [Act.eval])

/-- An operation that writes, or makes memory, or calls. -/
theorem Ob.eff {Q : Exit → Act → World → Prop} {Stage : (Nat → Option Value) → World → Prop} {i : Nat} {o : Oper} (ho : ops[i]? = some o) (hg : o.guard = none) (he : effs.contains i = true)
    (h : ∀ rs w (a : Act), Stage rs w → (∀ j ∈ effs, anc A i j = true → ∃ v, rs j = some v) → rs i = none → (∀ j, anc A j i = true → rs j = none) → (∀ t ∈ looks ops o, (a.tmps[t]?).getD undef = seen ops A a0 effs val rs i t) →
      ∀ K : Act → World → Prop, (∀ v w', Stage (upd rs i v) w' → K (a.put o.dst v) w') → o.wp P a w K Q) :
    Ob P ops A a0 effs val Q Stage i := by
  intro o' ho' rs w a hs hd hn hl hk hdf
  rw [ho] at ho'
  cases ho'
  have hw : wantedV A effs val o rs = true := by unfold wantedV; rw [hg]
  rw [if_pos hw, if_pos he]
  exact .inl (h rs w a hs hd hn hl (fun t ht => by rw [← hk t ht]; simp [Act.eval]) _ (fun v w' hst => ⟨v, rfl, hst⟩))

/-- .. that may give up. -/
theorem Ob.effd {Q : Exit → Act → World → Prop} {Stage : (Nat → Option Value) → World → Prop} {i : Nat} {o : Oper} (ho : ops[i]? = some o) (hg : o.guard = none) (he : effs.contains i = true)
    (h : ∀ rs w (a : Act), Stage rs w → (∀ j ∈ effs, anc A i j = true → ∃ v, rs j = some v) → rs i = none → (∀ j, anc A j i = true → rs j = none) → (∀ t ∈ looks ops o, (a.tmps[t]?).getD undef = seen ops A a0 effs val rs i t) →
      a.defers = a0.defers → ∀ K : Act → World → Prop, (∀ v w', Stage (upd rs i v) w' → K (a.put o.dst v) w') → o.wp P a w K Q) :
    Ob P ops A a0 effs val Q Stage i := by
  intro o' ho' rs w a hs hd hn hl hk hdf
  rw [ho] at ho'
  cases ho'
  have hw : wantedV A effs val o rs = true := by unfold wantedV; rw [hg]
  rw [if_pos hw, if_pos he]
  exact .inl (h rs w a hs hd hn hl (fun t ht => by rw [← hk t ht]; simp [Act.eval]) hdf _ (fun v w' hst => ⟨v, rfl, hst⟩))

/-- A guarded operation that is wanted, and reckons or reads. -/
theorem Ob.guarded {Q : Exit → Act → World → Prop} {Stage : (Nat → Option Value) → World → Prop} {i : Nat} {o : Oper} (ho : ops[i]? = some o) (he : effs.contains i = false) (v : (Nat → Option Value) → Value)
    (hv : ∀ rs, val i (mask A i rs) = v rs)
    (hw : ∀ rs w, Stage rs w → (∀ j ∈ effs, anc A i j = true → ∃ v, rs j = some v) → wantedV A effs val o rs = true)
    (h : ∀ rs w (a : Act), Stage rs w → (∀ j ∈ effs, anc A i j = true → ∃ v, rs j = some v) → (∀ j, anc A j i = true → rs j = none) → (∀ t ∈ looks ops o, (a.tmps[t]?).getD undef = seen ops A a0 effs val rs i t) → (execOp a.eval o).run P w = .ok (.value (v rs)) w) :
    Ob P ops A a0 effs val Q Stage i := by
  intro o' ho' rs w a hs hd hn hl hk hdf
  rw [ho] at ho'
  cases ho'
  rw [if_pos (hw rs w hs hd), if_neg (by rw [he]; simp), hv]
  exact h rs w a hs hd hl (fun t ht => by rw [← hk t ht]; simp [Act.eval])


/-- A guarded operation that is wanted, and writes, or makes memory, or calls. -/
theorem Ob.geff {Q : Exit → Act → World → Prop} {Stage : (Nat → Option Value) → World → Prop} {i : Nat} {o : Oper} (ho : ops[i]? = some o) (he : effs.contains i = true)
    (hw : ∀ rs w, Stage rs w → (∀ j ∈ effs, anc A i j = true → ∃ v, rs j = some v) → wantedV A effs val o rs = true)
    (h : ∀ rs w (a : Act), Stage rs w → (∀ j ∈ effs, anc A i j = true → ∃ v, rs j = some v) → rs i = none → (∀ j, anc A j i = true → rs j = none) → (∀ t ∈ looks ops o, (a.tmps[t]?).getD undef = seen ops A a0 effs val rs i t) →
      ∀ K : Act → World → Prop, (∀ v w', Stage (upd rs i v) w' → K (a.put o.dst v) w') → o.wp P a w K Q) :
    Ob P ops A a0 effs val Q Stage i := by
  intro o' ho' rs w a hs hd hn hl hk hdf
  rw [ho] at ho'
  cases ho'
  rw [if_pos (hw rs w hs hd), if_pos he]
  exact .inl (h rs w a hs hd hn hl (fun t ht => by rw [← hk t ht]; simp [Act.eval]) _ (fun v w' hst => ⟨v, rfl, hst⟩))

theorem wp_region_puts {Q : Exit → Act → World → Prop} {Stage : (Nat → Option Value) → World → Prop} {id N : Nat} {w : World} (l : (Nat → Option Value) → List (Option Nat × Value)) (hm : P.follows .mixedOrders = true) (hok : okB ops A N = true) (hN : N = a0.tmps.size)
    (hl : ∀ rs, (List.range ops.size).map (fun k => ((ops[k]?).bind (·.dst), V A effs val rs k)) = l rs)
    (h0 : Stage (fun _ => none) { w with drawn := w.drawn + 1 })
    (hob : ∀ i, i < ops.size → Ob P ops A a0 effs val Q Stage i)
    (hend : ∀ rs w, Stage rs w → (∀ k ∈ effs, k < ops.size → ∃ v, rs k = some v) → Q .normal ((l rs).foldl (fun a p => a.put p.1 p.2) a0) w) : (Code.region id ops true).wp P Q a0 w :=
  wp_region hm hok hN h0 hob (fun rs w hs hd => by
    have h := hend rs w hs hd
    rw [← hl rs, List.foldl_map] at h
    exact h)

end
end Reg
end Go.Proofs.YthbjcihdlhkboaaGreatDoor
