/- A shelf's twin, in new memory, cut. -/
import Derived.Test.YthbjcihdlhkboaaGreatDoorPx9
namespace Go.Proofs.YthbjcihdlhkboaaGreatDoor
set_option linter.unusedSimpArgs false
set_option linter.unusedVariables false
open Go.RowKit Go.Maps Go.Shelf Go.Lib

/-- A shelf as it is handed in. -/
structure ShD where
  lists : Int
  rules : Int
  deflt : ByteArray
  names : List ByteArray
  texts : List (List ByteArray)
abbrev LS.new (a b : Int) : LS := ⟨a, b, ⟨#[]⟩, []⟩
abbrev RL.new (a b : Int) : RL := ⟨a, b, ⟨#[]⟩, []⟩
/-- Does the text ahead forbid this one? -/
def notUp (p : Option ByteArray) (n : ByteArray) : Bool := match p with | some x => !Srt.ltS x n | none => false
def prevN (ns : List ByteArray) (k : Nat) : Option ByteArray := if k = 0 then none else ns[k - 1]?

def stepL (L : LS) (p : Option ByteArray) (n : ByteArray) (ts : List ByteArray) : Option LS :=
  if notUp p n = true then none else if (L.set n ts).1 ≠ 0 then none else if (((L.set n ts).2.get n).getD []).map writeS = ts then some (L.set n ts).2 else none
def stepR (S : RL) (p : Option ByteArray) (n : ByteArray) (ts : List ByteArray) : Option RL :=
  if notUp p n = true then none else if wordE n (validB n) ≠ 0 then none else if S.rules < ts.length then none else
  match parseAll ts with
  | .error _ => none
  | .ok rs => if rs.map refWriteS = ts then (if (S.set n ts).1 ≠ 0 then none else some (S.set n ts).2) else none
def uptoL (L0 : LS) (ns : List ByteArray) (tss : List (List ByteArray)) : Nat → Option LS
  | 0 => some L0
  | k + 1 => match uptoL L0 ns tss k, ns[k]?, tss[k]? with
    | some L, some n, some ts => stepL L (prevN ns k) n ts
    | _, _, _ => none
def uptoR (S0 : RL) (ns : List ByteArray) (tss : List (List ByteArray)) : Nat → Option RL
  | 0 => some S0
  | k + 1 => match uptoR S0 ns tss k, ns[k]?, tss[k]? with
    | some S, some n, some ts => stepR S (prevN ns k) n ts
    | _, _, _ => none
theorem uptoL_none {L0 : LS} {ns : List ByteArray} {tss : List (List ByteArray)} {k m : Nat} (h : uptoL L0 ns tss k = none) (hk : k ≤ m) : uptoL L0 ns tss m = none := by
  induction m with
  | zero => obtain rfl : k = 0 := by omega
            exact h
  | succ m ih =>
    rcases Nat.lt_or_ge m k with h1 | h1
    · obtain rfl : k = m + 1 := by omega
      exact h
    · simp only [uptoL, ih h1]
theorem uptoR_none {S0 : RL} {ns : List ByteArray} {tss : List (List ByteArray)} {k m : Nat} (h : uptoR S0 ns tss k = none) (hk : k ≤ m) : uptoR S0 ns tss m = none := by
  induction m with
  | zero => obtain rfl : k = 0 := by omega
            exact h
  | succ m ih =>
    rcases Nat.lt_or_ge m k with h1 | h1
    · obtain rfl : k = m + 1 := by omega
      exact h
    · simp only [uptoR, ih h1]
def LS.fin (o : Option LS) (d : ByteArray) : Option LS := match o with
  | none => none
  | some L => if (L.deflt d).1 = 0 then some (L.deflt d).2 else none
def RL.fin (o : Option RL) (d : ByteArray) : Option RL := match o with
  | none => none
  | some S => if (S.deflt d).1 = 0 then some (S.deflt d).2 else none
instance (a b : Int) : Decidable (badB a b) := by unfold badB; infer_instance
def LS.load (s : ShD) : Option LS := if badB s.lists s.rules ∨ s.names.length ≠ s.texts.length then none else LS.fin (uptoL (LS.new s.lists s.rules) s.names s.texts s.names.length) s.deflt
def RL.load (s : ShD) : Option RL := if badB s.lists s.rules ∨ s.lists < s.names.length ∨ s.texts.length ≠ s.names.length then none else RL.fin (uptoR (RL.new s.lists s.rules) s.names s.texts s.names.length) s.deflt

theorem parseAll_err0 {ts : List ByteArray} {e : Int} (h : parseAll ts = .error e) : e ≠ 0 := by
  induction ts with
  | nil => cases h
  | cons t ts ih =>
    simp only [parseAll] at h
    cases ht : parseF t with
    | error c => rw [ht] at h; cases h; exact parseF_err ht
    | ok r =>
      rw [ht] at h
      cases hts : parseAll ts with
      | error c => rw [hts] at h; cases h; exact ih hts
      | ok rs => rw [hts] at h; cases h
theorem write_all {ts : List ByteArray} {rs : List Rule} (h : parseAll ts = .ok rs) : rs.map refWriteS = rs.map writeS :=
  List.map_congr_left fun q hq => by
    obtain ⟨t, _, ht⟩ := (parseAll_mem h).2 q hq
    exact write_same q (parseF_way ht)

/-- One step, both ways. -/
theorem step_same {L : LS} {S : RL} (h : Twin L S) (p : Option ByteArray) (n : ByteArray) (ts : List ByteArray) :
    (stepL L p n ts = none ∧ stepR S p n ts = none) ∨ ∃ L' S', stepL L p n ts = some L' ∧ stepR S p n ts = some S' ∧ Twin L' S' ∧ L' = (L.set n ts).2 ∧ S' = (S.set n ts).2 ∧ (S.set n ts).1 = 0 ∧ notUp p n = false := by
  unfold stepL stepR
  cases hp : notUp p n with
  | true => exact .inl ⟨rfl, rfl⟩
  | false =>
    simp only [Bool.false_eq_true, if_false]
    have hs := h.set n ts
    by_cases hw : wordE n (validB n) = 0
    · rw [if_neg (show ¬ wordE n (validB n) ≠ 0 by simpa using hw)]
      cases hpa : parseAll ts with
      | error e =>
        have h1 : (L.set n ts).1 = e := by unfold LS.set; rw [if_pos hw, hpa]
        rw [if_pos (by rw [h1]; exact parseAll_err0 hpa)]
        refine .inl ⟨rfl, ?_⟩
        split <;> rfl
      | ok rs =>
        obtain ⟨hl, _⟩ := parseAll_mem hpa
        by_cases hr : S.rules < (ts.length : Int)
        · have h1 : (L.set n ts).1 = 8 := by
            unfold LS.set
            rw [if_pos hw, hpa]
            simp only
            rw [if_pos (.inl (by rw [h.rules, hl]; exact hr))]
          rw [if_pos (by rw [h1]; decide), if_pos hr]
          exact .inl ⟨rfl, rfl⟩
        · rw [if_neg hr]
          simp only
          by_cases h0 : (S.set n ts).1 = 0
          · have h1 : (L.set n ts).1 = 0 := by rw [hs.1]; exact h0
            have hgt : ((L.set n ts).2.get n) = some rs := by
              unfold LS.set at h1 ⊢
              rw [if_pos hw, hpa] at h1 ⊢
              simp only at h1 ⊢
              split at h1
              · cases h1
              · rename_i hc
                rw [if_neg hc]
                exact LS.get_put_same _ _ _
            rw [if_neg (show ¬ (L.set n ts).1 ≠ 0 by simpa using h1), if_neg (show ¬ (S.set n ts).1 ≠ 0 by simpa using h0), hgt, write_all hpa]
            simp only [Option.getD_some]
            by_cases hts : rs.map writeS = ts
            · rw [if_pos hts, if_pos hts]
              exact .inr ⟨_, _, rfl, rfl, hs.2, rfl, rfl, h0, trivial⟩
            · rw [if_neg hts, if_neg hts]
              exact .inl ⟨rfl, rfl⟩
          · have h1 : (L.set n ts).1 ≠ 0 := by rw [hs.1]; exact h0
            rw [if_pos h1, if_pos h0]
            refine .inl ⟨rfl, ?_⟩
            split <;> rfl
    · have h1 : (L.set n ts).1 = wordE n (validB n) := by unfold LS.set; rw [if_neg hw]
      rw [if_pos (by rw [h1]; exact hw), if_pos hw]
      exact .inl ⟨rfl, rfl⟩

/-- What stands of lists that were laid in a rising order. -/
structure Laid (ns : List ByteArray) (k : Nat) (L : LS) (S : RL) : Prop where
  twin : Twin L S
  names : S.rows.map (·.name) = ns.take k
  len : S.rows.length = k
  room : (k : Int) ≤ S.most
theorem set_most (S : RL) (n : ByteArray) (ts : List ByteArray) : (S.set n ts).2.most = S.most ∧ (S.set n ts).2.rules = S.rules := by
  unfold RL.set
  split
  · split
    · exact ⟨rfl, rfl⟩
    · split <;> exact ⟨rfl, rfl⟩
  · exact ⟨rfl, rfl⟩
theorem Laid.step {ns : List ByteArray} {k : Nat} {L : LS} {S : RL} (h : Laid ns k L S) {n : ByteArray} (hn : ns[k]? = some n) (ts : List ByteArray) (hup : notUp (prevN ns k) n = false) (h0 : (S.set n ts).1 = 0) : Laid ns (k + 1) (L.set n ts).2 (S.set n ts).2 := by
  have hall : ∀ r ∈ S.rows, Srt.ltS r.name n = true := by
    intro r hr
    by_cases hk : k = 0
    · have : S.rows = [] := List.eq_nil_of_length_eq_zero (by rw [h.len]; exact hk)
      rw [this] at hr; cases hr
    · have hkn : k < ns.length := (List.getElem?_eq_some_iff.1 hn).1
      have hlast : S.rows[k - 1]? = some (S.rows[k - 1]'(by have := h.len; omega)) := List.getElem?_eq_getElem _
      obtain ⟨q, hq⟩ : ∃ q, S.rows[k - 1]? = some q := ⟨_, hlast⟩
      have hqn : ns[k - 1]? = some q.name := by
        have e1 : (S.rows.map (·.name))[k - 1]? = some q.name := by rw [List.getElem?_map, hq]; rfl
        rw [h.names, List.getElem?_take, if_pos (by omega)] at e1
        exact e1
      have hlt : Srt.ltS q.name n = true := by
        unfold prevN notUp at hup
        rw [if_neg hk, hqn] at hup
        simpa using hup
      obtain ⟨j, hj, e⟩ := List.getElem_of_mem hr
      by_cases hjk : j = k - 1
      · subst hjk
        rw [List.getElem?_eq_getElem hj, e] at hq
        cases hq
        exact hlt
      · have := List.pairwise_iff_getElem.1 h.twin.sorted j (k - 1) hj (by have := h.len; omega) (by have := h.len; omega)
        rw [e] at this
        have e2 : S.rows[k - 1]'(by have := h.len; omega) = q := by
          rw [List.getElem?_eq_getElem (by have := h.len; omega)] at hq
          exact Option.some.inj hq
        rw [e2] at this
        exact Srt.ltS_trans this hlt
  have hpos : S.pos n = S.rows.length := Srt.pos_eq (Nat.le_refl _) (fun j r hj hr => hall r (List.mem_of_getElem? hr)) (fun r hr => by rw [List.getElem?_eq_none (Nat.le_refl _)] at hr; cases hr)
  have his : S.is n = false := by
    unfold RL.is Srt.isAt
    rw [show Srt.pos Row.name S.rows n = S.rows.length from hpos, List.getElem?_eq_none (Nat.le_refl _)]
  have hset : ∃ rs, (S.set n ts).2 = S.setRow n rs ∧ S.rows.length < S.most := by
    unfold RL.set at h0 ⊢
    split at h0
    · rename_i hw
      rw [if_pos hw]
      cases hp : parseAll ts with
      | error e => rw [hp] at h0; exact absurd h0 (parseAll_err0 hp)
      | ok rs =>
        rw [hp] at h0
        simp only at h0 ⊢
        split at h0
        · cases h0
        · rename_i hc
          rw [if_neg hc]
          refine ⟨rs, rfl, ?_⟩
          have := (not_or.1 hc).2
          simp only [not_and] at this
          have := this his
          omega
    · rename_i hw
      exact absurd h0 hw
  obtain ⟨rs, hrs, hlt⟩ := hset
  have hrows : (S.set n ts).2.rows = S.rows ++ [⟨n, rs.map refWriteS, rs⟩] := by
    rw [hrs]
    unfold RL.setRow Srt.put Srt.rest
    rw [show Srt.isAt Row.name S.rows n = false from his, show Srt.pos Row.name S.rows n = S.rows.length from hpos]
    simp
  refine ⟨(h.twin.set n ts).2, ?_, ?_, ?_⟩
  · rw [hrows, List.map_append, h.names, List.map_cons, List.map_nil, List.take_add_one, hn]; rfl
  · rw [hrows, List.length_append, h.len]; rfl
  · rw [(set_most S n ts).1]; have := h.len; omega

theorem upto_same {a b : Int} (ha : 0 ≤ a) (ns : List ByteArray) (tss : List (List ByteArray)) : ∀ k,
    (uptoL (LS.new a b) ns tss k = none ∧ uptoR (RL.new a b) ns tss k = none) ∨ ∃ L S, uptoL (LS.new a b) ns tss k = some L ∧ uptoR (RL.new a b) ns tss k = some S ∧ Laid ns k L S ∧ S.most = a
  | 0 => .inr ⟨_, _, rfl, rfl, ⟨Twin.new a b, by simp, rfl, by simpa using ha⟩, rfl⟩
  | k + 1 => by
    rcases upto_same (b := b) ha ns tss k with ⟨h1, h2⟩ | ⟨L, S, h1, h2, h3, h4⟩
    · left; simp only [uptoL, uptoR, h1, h2, and_self]
    · simp only [uptoL, uptoR, h1, h2]
      cases hn : ns[k]? with
      | none => left; exact ⟨rfl, rfl⟩
      | some n =>
        cases ht : tss[k]? with
        | none => left; exact ⟨rfl, rfl⟩
        | some ts =>
          simp only
          rcases step_same h3.twin (prevN ns k) n ts with ⟨e1, e2⟩ | ⟨L', S', e1, e2, e3, rfl, rfl, e4, e5⟩
          · left; exact ⟨e1, e2⟩
          · exact .inr ⟨_, _, e1, e2, h3.step hn ts e5 e4, by rw [(set_most S n ts).1]; exact h4⟩

theorem load_same (s : ShD) : (LS.load s = none ∧ RL.load s = none) ∨ ∃ L S, LS.load s = some L ∧ RL.load s = some S ∧ Twin L S := by
  unfold LS.load RL.load
  by_cases hb : badB s.lists s.rules
  · rw [if_pos (.inl hb), if_pos (.inl hb)]; exact .inl ⟨rfl, rfl⟩
  · by_cases hl : s.names.length = s.texts.length
    · rw [if_neg (show ¬ (badB s.lists s.rules ∨ s.names.length ≠ s.texts.length) by simp [hb, hl])]
      rcases upto_same (b := s.rules) (show 0 ≤ s.lists by unfold badB at hb; omega) s.names s.texts s.names.length with ⟨h1, h2⟩ | ⟨L, S, h1, h2, h3, h4⟩
      · rw [h1, h2]
        left
        refine ⟨rfl, ?_⟩
        split <;> rfl
      · have hroom := h3.room
        rw [h4] at hroom
        rw [h1, h2, if_neg (not_or.2 ⟨hb, not_or.2 ⟨by omega, fun h => h hl.symm⟩⟩)]
        have hd := h3.twin.deflt s.deflt
        unfold LS.fin RL.fin
        simp only
        rw [hd.1]
        by_cases h0 : (S.deflt s.deflt).1 = 0
        · rw [if_pos h0, if_pos h0]
          exact .inr ⟨_, _, rfl, rfl, hd.2⟩
        · rw [if_neg h0, if_neg h0]
          exact .inl ⟨rfl, rfl⟩
    · rw [if_pos (.inr hl), if_pos (.inr (.inr (fun e => hl e.symm)))]; exact .inl ⟨rfl, rfl⟩

end Go.Proofs.YthbjcihdlhkboaaGreatDoor

namespace Go.Proofs.YthbjcihdlhkboaaGreatDoor
set_option linter.unusedSimpArgs false
set_option linter.unusedVariables false
open Go.RowKit Go.Maps Go.Shelf Go.Lib

/-- A list of lists of texts, wherever it lies. -/
def TabS (w : World) (v : Value) (tss : List (List ByteArray)) : Prop :=
  ∃ A c, v = .slice A tss.length c ∧ tss.length ≤ 9223372036854775807 ∧ (0 < tss.length → ∃ b off, A = some ⟨b, off, none⟩ ∧ b < w.heap.size ∧ ∀ k ts, tss[k]? = some ts → ∃ u, w.cell? ⟨b, off + k, none⟩ = some u ∧ Strs w u ts)
theorem TabS.below {w w' : World} {v : Value} {tss : List (List ByteArray)} (h : TabS w v tss) (hb : Below w.heap.size w w') : TabS w' v tss := by
  obtain ⟨A, c, h1, h2, h3⟩ := h
  refine ⟨A, c, h1, h2, fun hp => ?_⟩
  obtain ⟨b, off, e1, e2, e3⟩ := h3 hp
  refine ⟨b, off, e1, Nat.lt_of_lt_of_le e2 hb.size, fun k ts hk => ?_⟩
  obtain ⟨u, u1, u2⟩ := e3 k ts hk
  exact ⟨u, (hb.cell (p := ⟨b, off + k, none⟩) e2).trans u1, u2.below hb⟩
theorem TabQ.tabS {w : World} {B : Nat} {v : Value} {tss : List (List ByteArray)} (h : TabAt w B v tss) : TabS w v tss := by
  obtain ⟨A, c, rfl⟩ := h.shape
  obtain ⟨es, e1, e2, e3⟩ := h
  refine ⟨A, c, rfl, by have := e2.len_le; unfold maxLen at this; omega, fun hp => ?_⟩
  obtain ⟨b, off, _, hA, hb, _⟩ := TabQ.at (k := 0) ⟨es, e1, e2, e3⟩ (List.getElem?_eq_getElem hp)
  refine ⟨b, off, hA, hb, fun k ts hk => ?_⟩
  obtain ⟨b', off', v, hA', hb', hc, ht, _⟩ := TabQ.at (k := k) ⟨es, e1, e2, e3⟩ hk
  rw [hA] at hA'
  cases hA'
  exact ⟨v, hc, txt_strs ht⟩

def cutTab (tss : List (List ByteArray)) (n : Nat) : List (List ByteArray) := (tss.take n).map fun ts => cutAll ts 20 120
theorem cutTab_snoc {tss : List (List ByteArray)} {k : Nat} {ts : List ByteArray} (h : tss[k]? = some ts) : cutTab tss (k + 1) = cutTab tss k ++ [cutAll ts 20 120] := by
  unfold cutTab
  rw [take_snoc h, List.map_append]
  rfl
theorem cutTab_end {tss : List (List ByteArray)} : cutTab tss (min 20 tss.length) = cutTab tss 20 := by
  unfold cutTab
  congr 1
  rw [← List.take_take, List.take_length]

/-- Told of a round. -/
structure TwSt (w wx : World) (src : Obj) (a b : Int) (d : ByteArray) (k ct nk : Nat) (At : Option Addr) (nv : Value) (ns : List ByteArray) (tss : List (List ByteArray)) (tx : List ByteArray) (rs : Nat → Option Value) : Prop where
  below : Below w.heap.size w wx
  names : Seq wx w.heap.size 9 1 nv nk (flatS ns)
  box1 : wx.heap[w.heap.size]? = some src
  box2 : wx.heap[w.heap.size + 1]? = some shZ
  box : ∃ v, wx.heap[w.heap.size + 2]? = some (.cells #[.int .i64 a, .int .i64 b, .string d, nv, v] 38) ∧ (rs 11 = none → v = .slice At k ct) ∧ (rs 11 ≠ none → rs 9 = some v)
  tab : rs 9 = none → TabQ wx w.heap.size (.slice At k ct) k tss
  txt : ∀ u, rs 7 = some u → ∃ A c, u = .slice A tx.length c ∧ TxtAt wx w.heap.size u tx
  one : ∀ u, rs 8 = some u → rs 9 = none → ∃ g u4, u = .slice (some ⟨g, 0, none⟩) 1 1 ∧ rs 7 = some u4 ∧ wx.cell? ⟨g, 0, none⟩ = some u4
  app : ∀ u, rs 9 = some u → ∃ A c, u = .slice A (k + 1) c ∧ TabQ wx w.heap.size u (k + 1) (tss ++ [tx])

set_option maxRecDepth 100000 in
set_option maxHeartbeats 16000000 in
theorem twin17_any (w : World) (a b : Int) (d : ByteArray) (vn vt : Value) (ns : List ByteArray) (tss : List (List ByteArray)) (hn : Strs w vn ns) (ht : TabS w vt tss) :
    Calls Tryz.prog 33 #[.agg #[.int .i64 a, .int .i64 b, .string d, vn, vt]] w fun e w' => ∃ vn' vt', e = .returned (.agg #[.int .i64 a, .int .i64 b, .string d, vn', vt']) ∧ TxtAt w' w.heap.size vn' (cutAll ns 20 80) ∧ TabAt w' w.heap.size vt' (cutTab tss 20) ∧ Below w.heap.size w w' := by
  obtain ⟨AN, cN, rfl⟩ : ∃ A c, vn = .slice A ns.length c := let ⟨⟨A, cap, h, _⟩, _⟩ := hn; ⟨A, cap, h⟩
  obtain ⟨AT, cT, rfl, htl, hts⟩ := ht
  have HN := Lib.hid hn
  have HT := Lib.hid (And.intro htl hts)
  have ht1 : (tss.length : Int) ≤ 9223372036854775807 := by omega
  obtain ⟨W3, hW3⟩ : ∃ W, ((w.alloc (.cells #[.int .i64 a, .int .i64 b, .string d, .slice AN ns.length cN, .slice AT tss.length cT] 38)).alloc shZ).alloc (.cells #[.int .i64 a, .int .i64 b, .string d, .slice AN ns.length cN, .slice AT tss.length cT] 38) = W := ⟨_, rfl⟩
  have hb3 : Below w.heap.size w W3 := by rw [← hW3]; exact (((Below.refl _ _).alloc (Nat.le_refl _) _).alloc (by simp) _).alloc (by simp <;> omega) _
  have HW := Lib.hid (And.intro hb3 hW3)
  clear hb3 hn htl hts hW3
  go_enter Tryz.func33, Tryz.ntmps33
  go_wp2_with fail
  refine (texts_any _ _ ns (by rw [HW.out.2]; exact HN.out.below HW.out.1) 20 80 (by decide) (by decide)).mono ?_
  rintro e w4 ⟨A4, c4, rfl, hb4, hs4⟩
  obtain ⟨n4, hn4⟩ : ∃ n, (cutAll ns 20 80).length = n := ⟨_, rfl⟩
  rw [hn4] at hs4 ⊢
  rw [HW.out.2] at hb4 hs4
  have hx1 : W3.heap[w.heap.size]? = some (.cells #[.int .i64 a, .int .i64 b, .string d, .slice AN ns.length cN, .slice AT tss.length cT] 38) := by rw [← HW.out.2]; exact blk_alloc (blk_alloc (blk_new _ _) _) _
  have hx2 : W3.heap[w.heap.size + 1]? = some shZ := by rw [← HW.out.2]; exact blk_alloc (blk_new' _ (by simp)) _
  have hx3 : W3.heap[w.heap.size + 2]? = some (.cells #[.int .i64 a, .int .i64 b, .string d, .slice AN ns.length cN, .slice AT tss.length cT] 38) := by rw [← HW.out.2]; exact blk_new' _ (by simp)
  have hx1 := blk_below hx1 hb4 (blk_lt hx1)
  have hx2 := blk_below hx2 hb4 (blk_lt hx2)
  have hx3 := blk_below hx3 hb4 (blk_lt hx3)
  have hx3b := blk_set_same hx3 3 (.slice A4 n4 c4)
  have hx3c := blk_set_same hx3b 4 (.slice none 0 0)
  have hz3 : w.heap.size + 2 < w4.heap.size := blk_lt hx3
  have hb4w : Below w.heap.size w w4 := HW.out.1.trans (hb4.mono HW.out.1.size)
  obtain ⟨y0, y1, y2, y3, y4, z0, z1, z2, z3, z4⟩ := shCells hx3
  have hs4b := ((hs4.lower HW.out.1.size).set_ty hx3 (by decide) 3 (.slice A4 n4 c4)).set_ty hx3b (by decide) 4 (.slice none 0 0)
  have hb4b : Below w.heap.size w ((w4.setCell ⟨w.heap.size + 2, 3, none⟩ (.slice A4 n4 c4)).setCell ⟨w.heap.size + 2, 4, none⟩ (.slice none 0 0)) := (hb4w.setCell (by simp) _).setCell (by simp) _
  have hx1b := blk_set_other (blk_set_other hx1 (a := (⟨w.heap.size + 2, 3, none⟩ : Addr)) (.slice A4 n4 c4) (by simp)) (a := (⟨w.heap.size + 2, 4, none⟩ : Addr)) (.slice none 0 0) (by simp)
  have hx2b := blk_set_other (blk_set_other hx2 (a := (⟨w.heap.size + 2, 3, none⟩ : Addr)) (.slice A4 n4 c4) (by simp)) (a := (⟨w.heap.size + 2, 4, none⟩ : Addr)) (.slice none 0 0) (by simp)
  have HX := Lib.hid (And.intro hb4b (And.intro hs4b (And.intro hx3c (And.intro hx1b hx2b))))
  have HN4 := Lib.hid hn4
  clear hs4 hb4 hx1 hx2 hx3 hx3b hx3c hs4b hb4b hb4w hx1b hx2b HW hn4
  go_wp2_with (fail)
  clear y0 y1 y2 y3 y4 z0 z1 z2 z3 z4
  go_loopg [4] (min 20 tss.length) (fun g s4 wr => ∃ (k : Nat) (vt : Value), k ≤ min 20 tss.length ∧ g = min 20 tss.length - k ∧ s4 = .int .i64 k ∧ Below w.heap.size w wr ∧ Seq wr w.heap.size 9 1 (.slice A4 n4 c4) n4 (flatS (cutAll ns 20 80)) ∧ wr.heap[w.heap.size + 2]? = some (.cells #[.int .i64 a, .int .i64 b, .string d, .slice A4 n4 c4, vt] 38) ∧ wr.heap[w.heap.size]? = some (.cells #[.int .i64 a, .int .i64 b, .string d, .slice AN ns.length cN, .slice AT tss.length cT] 38) ∧ wr.heap[w.heap.size + 1]? = some shZ ∧ TabQ wr w.heap.size vt k (cutTab tss k))
  case atStart => exact ⟨0, _, Nat.zero_le _, rfl, rfl, HX.out.1, HX.out.2.1, HX.out.2.2.1, HX.out.2.2.2.1, HX.out.2.2.2.2, TabQ.nil _ _⟩
  case round =>
    clear HX
    obtain ⟨k, vt, hk, hgk, rfl, hbx, hq, hbox, hb1, hb2, htab⟩ := hrel
    obtain ⟨At, ct, rfl⟩ := htab.shape
    obtain ⟨y0, y1, y2, y3, y4, z0, z1, z2, z3, z4⟩ := shCells hbox
    have d4 : wr.cell? ⟨w.heap.size, 4, none⟩ = some (.slice AT tss.length cT) := blk_cell hb1 4
    have HX := Lib.hid (And.intro hbx (And.intro hq (And.intro hbox (And.intro hb1 (And.intro hb2 htab)))))
    have HG := Lib.hid (And.intro hk hgk)
    have hzb : w.heap.size + 2 < wr.heap.size := blk_lt hbox
    clear hbx hq hbox hb1 hb2 htab hgk hk
    by_cases hlt2 : k < min 20 tss.length
    · have t1 : decide ((k : Int) < (tss.length : Int)) = true := by simp; omega
      have t2 : decide ((k : Int) < 20) = true := by simp; omega
      have t3 : (k : Int) < (tss.length : Int) := by omega
      have t0 : (0 : Int) ≤ (k : Int) := by omega
      have hw : IntKind.i64.wrap ((k : Int) + 1) = (k : Int) + 1 := IntWalk.i64_in _ (by omega)
      obtain ⟨tx, htx⟩ : ∃ tx, tss[k]? = some tx := ⟨_, List.getElem?_eq_getElem (by omega)⟩
      obtain ⟨bS, oS, rfl, hbS, hcS⟩ := HT.out.2 (by omega)
      obtain ⟨uS, huS, hSS⟩ := hcS k tx htx
      obtain ⟨AX, cX, rfl⟩ : ∃ A c, uS = .slice A tx.length c := let ⟨⟨A, cap, h, _⟩, _⟩ := hSS; ⟨A, cap, h⟩
      obtain ⟨i0, hin, hz0, hz1, hz2⟩ := info_parts strsInfo
      have HIN := Lib.hid (And.intro hin (And.intro hz0 (And.intro hz1 hz2)))
      obtain ⟨t9, ht9⟩ : ∃ t, cutAll tx 20 120 = t := ⟨_, rfl⟩
      have HTX := Lib.hid (And.intro htx (And.intro hSS ht9))
      clear htx hSS hcS y0 y1 y2 y3 hin hz0 hz1 hz2 ht9
      go_wp2_with fail
      clear y4 z0 z1 z2 z3 z4 d4
      refine Reg.wp_region_puts (A := [[], [0], [], [2], [], [3, 2, 4], [5, 3, 2, 4], [6, 5, 3, 2, 4], [7, 6, 5, 3, 2, 4], [1, 0, 8, 7, 6, 5, 3, 2, 4], [0, 1, 2, 3, 4, 5, 6, 7, 8, 9], [10, 0, 1, 2, 3, 4, 5, 6, 7, 8, 9]]) (effs := [7, 8, 9, 11]) (N := 34)
        (val := fun i r => match i with | 0 => .pointer (some ⟨w.heap.size + 2, 4, none⟩) | 1 => .slice At k ct | 2 => .pointer (some ⟨w.heap.size, 4, none⟩) | 3 => .slice (some ⟨bS, oS, none⟩) tss.length cT | 4 => .int .i64 k | 5 => .pointer (some ⟨bS, oS + k, none⟩) | 6 => .slice AX tx.length cX | 10 => .pointer (some ⟨w.heap.size + 2, 4, none⟩) | _ => undef)
        (Stage := fun rs wx => TwSt w wx (.cells #[.int .i64 a, .int .i64 b, .string d, .slice AN ns.length cN, .slice (some ⟨bS, oS, none⟩) tss.length cT] 38) a b d k ct n4 At (.slice A4 n4 c4) (cutAll ns 20 80) (cutTab tss k) t9 rs)
        (fun rs => [(some 22, .pointer (some ⟨w.heap.size + 2, 4, none⟩)), (some 23, .slice At k ct), (some 24, .pointer (some ⟨w.heap.size, 4, none⟩)), (some 25, .slice (some ⟨bS, oS, none⟩) tss.length cT), (some 26, .int .i64 k), (some 27, .pointer (some ⟨bS, oS + k, none⟩)), (some 28, .slice AX tx.length cX), (some 29, (rs 7).getD undef), (some 30, (rs 8).getD undef), (some 31, (rs 9).getD undef), (some 32, .pointer (some ⟨w.heap.size + 2, 4, none⟩)), (none, (rs 11).getD undef)])
        (by kernel_rfl) (by kernel_rfl) rfl (fun _ => rfl) ?h0 ?hob ?hend
      case hob =>
        intro i hi
        match i, hi with
        | 0, _ => exact Reg.Ob.pure rfl rfl rfl (fun rs => .pointer (some ⟨w.heap.size + 2, 4, none⟩)) (fun _ => rfl) (fun rs wx r hs hd hl hk => by
            have e3 : (r.tmps[3]?).getD undef = .pointer (some ⟨w.heap.size + 2, 0, none⟩) := hk 3 (by decide)
            go_simp)
        | 1, _ => exact Reg.Ob.pure rfl rfl rfl (fun rs => .slice At k ct) (fun _ => rfl) (fun rs wx r hs hd hl hk => by
            have e22 : (r.tmps[22]?).getD undef = .pointer (some ⟨w.heap.size + 2, 4, none⟩) := hk 22 (by decide)
            obtain ⟨v, hbv, hv1, _⟩ := hs.box
            obtain rfl := hv1 (hl 11 (by decide))
            have c : wx.cell? ⟨w.heap.size + 2, 4, none⟩ = some (.slice At k ct) := blk_cell hbv 4
            go_simp)
        | 2, _ => exact Reg.Ob.pure rfl rfl rfl (fun rs => .pointer (some ⟨w.heap.size, 4, none⟩)) (fun _ => rfl) (fun rs wx r hs hd hl hk => by
            have e1 : (r.tmps[1]?).getD undef = .pointer (some ⟨w.heap.size, 0, none⟩) := hk 1 (by decide)
            go_simp)
        | 3, _ => exact Reg.Ob.pure rfl rfl rfl (fun rs => .slice (some ⟨bS, oS, none⟩) tss.length cT) (fun _ => rfl) (fun rs wx r hs hd hl hk => by
            have e24 : (r.tmps[24]?).getD undef = .pointer (some ⟨w.heap.size, 4, none⟩) := hk 24 (by decide)
            have c : wx.cell? ⟨w.heap.size, 4, none⟩ = some (.slice (some ⟨bS, oS, none⟩) tss.length cT) := blk_cell hs.box1 4
            go_simp)
        | 4, _ => exact Reg.Ob.pure rfl rfl rfl (fun rs => .int .i64 k) (fun _ => rfl) (fun rs wx r hs hd hl hk => by
            have e4 : (r.tmps[4]?).getD undef = .int .i64 k := hk 4 (by decide)
            go_simp)
        | 5, _ => exact Reg.Ob.pure rfl rfl rfl (fun rs => .pointer (some ⟨bS, oS + k, none⟩)) (fun _ => rfl) (fun rs wx r hs hd hl hk => by
            have e25 : (r.tmps[25]?).getD undef = .slice (some ⟨bS, oS, none⟩) tss.length cT := hk 25 (by decide)
            have e26 : (r.tmps[26]?).getD undef = .int .i64 k := hk 26 (by decide)
            go_simp)
        | 6, _ => exact Reg.Ob.pure rfl rfl rfl (fun rs => .slice AX tx.length cX) (fun _ => rfl) (fun rs wx r hs hd hl hk => by
            have e27 : (r.tmps[27]?).getD undef = .pointer (some ⟨bS, oS + k, none⟩) := hk 27 (by decide)
            have c : wx.cell? ⟨bS, oS + k, none⟩ = some (.slice AX tx.length cX) := (hs.below.cell (p := ⟨bS, oS + k, none⟩) hbS).trans huS
            go_simp)
        | 7, _ =>
          refine Reg.Ob.eff rfl rfl rfl ?_
          intro rs wx r hs hd hn hl hk K hK
          have e28 : (r.tmps[28]?).getD undef = .slice AX tx.length cX := hk 28 (by decide)
          have C := texts_any wx (.slice AX tx.length cX) tx (HTX.out.2.1.below hs.below) 20 120 (by decide) (by decide)
          rw [HTX.out.2.2] at C
          have HC := Lib.hid C
          clear C
          have HS := Lib.hid hs
          have HN' := Lib.hid hn
          have HL := Lib.hid hl
          have HKK := Lib.hid hK
          clear hs hn hd hl hk hK
          go_simp
          refine HC.out.mono ?_
          rintro e w5 ⟨A5, c5, rfl, hb5, ht5⟩
          refine HKK.out _ _ ⟨HS.out.below.trans (hb5.mono HS.out.below.size), HS.out.names.below hb5 (fun j hj => (HS.out.names.lt j hj).2), blk_below HS.out.box1 hb5 (blk_lt HS.out.box1), blk_below HS.out.box2 hb5 (blk_lt HS.out.box2), ?_, fun h => (HS.out.tab (by simpa [Reg.upd] using h)).below hb5, fun u hu => ?_, fun u hu h => ?_, fun u hu => ?_⟩
          · obtain ⟨v, e1, e2, e3⟩ := HS.out.box
            exact ⟨v, blk_below e1 hb5 (blk_lt e1), fun h => e2 (by simpa [Reg.upd] using h), fun h => absurd (HL.out 11 (by decide)) (by simpa [Reg.upd] using h)⟩
          · have h2 : some (Value.slice A5 t9.length c5) = some u := hu
            cases h2
            exact ⟨A5, c5, rfl, ht5.lower HS.out.below.size⟩
          · have : rs 8 = some u := by simpa [Reg.upd] using hu
            rw [HL.out 8 (by decide)] at this
            cases this
          · have : rs 9 = some u := by simpa [Reg.upd] using hu
            rw [HL.out 9 (by decide)] at this
            cases this
        | 8, _ =>
          refine Reg.Ob.eff rfl rfl rfl ?_
          intro rs wx r hs hd hn hl hk K hK
          have e29 : (r.tmps[29]?).getD undef = ((rs 7).getD undef) := hk 29 (by decide)
          obtain ⟨u4, hu4⟩ := hd 7 (by decide) (by decide)
          obtain ⟨A5, c5, rfl, _⟩ := hs.txt u4 hu4
          rw [hu4] at e29
          simp only [Option.getD_some] at e29
          have HU := Lib.hid hu4
          clear hu4
          have HS := Lib.hid hs
          have HN' := Lib.hid hn
          have HL := Lib.hid hl
          have HKK := Lib.hid hK
          clear hs hn hd hl hk hK
          go_simp
          have hbA : Below wx.heap.size wx (wx.alloc (.cells #[.slice A5 t9.length c5] 32)) := (Below.refl _ _).alloc (Nat.le_refl _) _
          refine HKK.out _ _ ⟨HS.out.below.alloc HS.out.below.size _, HS.out.names.alloc _, blk_alloc HS.out.box1 _, blk_alloc HS.out.box2 _, ?_, fun h => (HS.out.tab (by simpa [Reg.upd] using h)).below hbA, fun u hu => ?_, fun u hu h => ?_, fun u hu => ?_⟩
          · obtain ⟨v, e1, e2, e3⟩ := HS.out.box
            exact ⟨v, blk_alloc e1 _, fun h => e2 (by simpa [Reg.upd] using h), fun h => absurd (HL.out 11 (by decide)) (by simpa [Reg.upd] using h)⟩
          · obtain ⟨A, c, e1, e2⟩ := HS.out.txt u (by simpa [Reg.upd] using hu)
            exact ⟨A, c, e1, e2.alloc _⟩
          · have h2 : some (Value.slice (some ⟨wx.heap.size, 0, none⟩) 1 1) = some u := hu
            cases h2
            exact ⟨_, _, rfl, by simpa [Reg.upd] using HU.out, blk_cell (blk_new _ _) 0⟩
          · have : rs 9 = some u := by simpa [Reg.upd] using hu
            rw [HL.out 9 (by decide)] at this
            cases this
        | 9, _ =>
          refine Reg.Ob.eff rfl rfl rfl ?_
          intro rs wx r hs hd hn hl hk K hK
          have e23 : (r.tmps[23]?).getD undef = .slice At k ct := hk 23 (by decide)
          have e30 : (r.tmps[30]?).getD undef = ((rs 8).getD undef) := hk 30 (by decide)
          obtain ⟨u5, hu5⟩ := hd 8 (by decide) (by decide)
          obtain ⟨g, u4, rfl, hu4, hcg⟩ := hs.one u5 hu5 hn
          obtain ⟨A5, c5, rfl, ht5⟩ := hs.txt u4 hu4
          rw [hu5] at e30
          simp only [Option.getD_some] at e30
          have ht := hs.tab hn
          obtain ⟨v8, hb8, _⟩ := hs.box
          have HU := Lib.hid (And.intro hu4 (And.intro hu5 (And.intro hcg (And.intro ht5 ht))))
          clear hu4 hu5 hcg ht5 ht hb8
          have HS := Lib.hid hs
          have HN' := Lib.hid hn
          have HL := Lib.hid hl
          have HKK := Lib.hid hK
          clear hs hn hd hl hK
          obtain ⟨hu4, hu5, hcg, ht5, ht⟩ := HU.out
          obtain ⟨es, q1, q2, q3⟩ := ht
          refine wp_append_seq wx _ _ 36 rfl w.heap.size 32 i0 (.slice none 0 0) 1 24 Tryz.underlying36 HIN.out.1 HIN.out.2.1 HIN.out.2.2.1 HIN.out.2.2.2 rfl (.slice At k ct) k (es.map (·.2)) (by simpa [Act.eval] using e23) q2 ⟨g, 0, none⟩ 1 1 [.slice A5 t9.length c5] (by simpa [Act.eval] using e30) rfl (by intro j u hu; match j, hu with | 0, hu => simpa [hcg, Addr.add] using hu) (by intro u hu; simp at hu; subst hu; rfl) (by decide) (by unfold maxLen; omega) (by omega) HS.out.below.size ?_
          intro v7 w7 hs7 hg7 hb7r
          obtain ⟨A7, c7, rfl⟩ := hs7.shape
          have hne : ∀ {j : Nat} {cs : Array Value} {T : TypeId}, wx.heap[j]? = some (.cells cs T) → T ≠ 32 → some j ≠ (Value.slice At k ct).ownBlock := fun {j cs T} hj hT e => by
            obtain ⟨cur, hc⟩ := q2.block j e.symm
            rw [hj] at hc
            simp at hc
            exact hT hc.2
          refine HKK.out _ _ ⟨HS.out.below.grown hg7 HS.out.below.size (fun j hj => (q2.lt j hj).1), HS.out.names.grown_ty q2 (by decide) hg7, blk_grown HS.out.box1 hg7 (hne HS.out.box1 (by decide)), blk_grown HS.out.box2 hg7 (hne HS.out.box2 (by decide)), ?_, fun h => (by simp [Reg.upd] at h), fun u hu => ?_, fun u hu h => (by simp [Reg.upd] at h), fun u hu => ?_⟩
          · obtain ⟨v, e1, e2, e3⟩ := HS.out.box
            exact ⟨v, blk_grown e1 hg7 (hne e1 (by decide)), fun h => e2 (by simpa [Reg.upd] using h), fun h => absurd (HL.out 11 (by decide)) (by simpa [Reg.upd] using h)⟩
          · obtain ⟨A, c, e1, e2⟩ := HS.out.txt u (by simpa [Reg.upd] using hu)
            exact ⟨A, c, e1, e2.grown_ty q2 (by decide) hg7⟩
          · have h2 : some (Value.slice A7 (k + 1) c7) = some u := hu
            cases h2
            exact ⟨A7, c7, rfl, TabQ.push q1 q2 q3 ht5 hs7 hg7⟩
        | 10, _ => exact Reg.Ob.pure rfl rfl rfl (fun rs => .pointer (some ⟨w.heap.size + 2, 4, none⟩)) (fun _ => rfl) (fun rs wx r hs hd hl hk => by
            have e3 : (r.tmps[3]?).getD undef = .pointer (some ⟨w.heap.size + 2, 0, none⟩) := hk 3 (by decide)
            go_simp)
        | 11, _ =>
          refine Reg.Ob.eff rfl rfl rfl ?_
          intro rs wx r hs hd hn hl hk K hK
          have e32 : (r.tmps[32]?).getD undef = .pointer (some ⟨w.heap.size + 2, 4, none⟩) := hk 32 (by decide)
          have e31 : (r.tmps[31]?).getD undef = ((rs 9).getD undef) := hk 31 (by decide)
          obtain ⟨u6, hu6⟩ := hd 9 (by decide) (by decide)
          obtain ⟨A7, c7, rfl, ht7⟩ := hs.app u6 hu6
          rw [hu6] at e31
          simp only [Option.getD_some] at e31
          obtain ⟨v8, hb8, _⟩ := hs.box
          obtain ⟨_, _, _, _, c4', _, _, _, _, z4⟩ := shCells hb8
          have HU := Lib.hid (And.intro hu6 (And.intro ht7 hb8))
          clear hu6 ht7 hb8
          have HS := Lib.hid hs
          have HN' := Lib.hid hn
          have HL := Lib.hid hl
          have HKK := Lib.hid hK
          clear hs hn hd hl hk hK
          go_simp
          obtain ⟨hu6, ht7, hb8⟩ := HU.out
          refine HKK.out undef _ ⟨HS.out.below.setCell (by simp) _, HS.out.names.set_ty hb8 (by decide) 4 _, blk_set_other HS.out.box1 _ (by simp), blk_set_other HS.out.box2 _ (by simp), ⟨_, blk_set_same hb8 4 _, fun h => by simp [Reg.upd] at h, fun _ => by simpa [Reg.upd] using hu6⟩, fun h => ?_, fun u hu => ?_, fun u hu h => ?_, fun u hu => ?_⟩
          · have : rs 9 = none := by simpa [Reg.upd] using h
            rw [hu6] at this
            cases this
          · obtain ⟨A, c, e1, e2⟩ := HS.out.txt u (by simpa [Reg.upd] using hu)
            exact ⟨A, c, e1, e2.set_ty hb8 (by decide) 4 _⟩
          · have : rs 9 = none := by simpa [Reg.upd] using h
            rw [hu6] at this
            cases this
          · have : rs 9 = some u := by simpa [Reg.upd] using hu
            rw [hu6] at this
            cases this
            exact ⟨A7, c7, rfl, ht7.set hb8 (by decide) (by decide) 4 _⟩
        | n + 12, h => exact absurd h (by simp <;> omega)
      case h0 =>
        exact ⟨HX.out.1.drew, HX.out.2.1.drew, HX.out.2.2.2.1, HX.out.2.2.2.2.1, ⟨_, HX.out.2.2.1, fun _ => rfl, fun h => absurd rfl h⟩, fun _ => HX.out.2.2.2.2.2.below (below_drewNs wr 1), fun u hu => (by cases hu), fun u hu _ => (by cases hu), fun u hu => (by cases hu)⟩
      case hend =>
        intro rs wx hs hd
        obtain ⟨u6, hu6⟩ := hd 9 (by decide) (by decide)
        obtain ⟨u8, hu8⟩ := hd 11 (by decide) (by decide)
        obtain ⟨u4, hu4⟩ := hd 7 (by decide) (by decide)
        obtain ⟨u5, hu5⟩ := hd 8 (by decide) (by decide)
        obtain ⟨A7, c7, rfl, ht7⟩ := hs.app u6 hu6
        obtain ⟨v8, hb8, _, hv8⟩ := hs.box
        have hv8 := hv8 (by rw [hu8]; simp)
        rw [hu6] at hv8
        cases hv8
        have htk : cutTab tss (k + 1) = cutTab tss k ++ [t9] := by rw [cutTab_snoc HTX.out.1, HTX.out.2.2]
        rw [← htk] at ht7
        have HE := Lib.hid (And.intro hs.below (And.intro hs.names (And.intro hb8 (And.intro hs.box1 (And.intro hs.box2 ht7)))))
        simp only [List.foldl_cons, List.foldl_nil, Act.put, List.setIfInBounds_toArray, List.set_cons_zero, List.set_cons_succ]
        rw [hu4, hu5, hu6]
        simp only [Option.getD_some]
        clear hs hd hb8 ht7 hu4 hu5 hu6 hu8 htk
        go_wp2_with fail
        go_roundg (min 20 tss.length - (k + 1))
        case measure => have := HG.out.2; omega
        case rel => exact ⟨k + 1, _, by omega, rfl, by go_num, HE.out.1, HE.out.2.1, HE.out.2.2.1, HE.out.2.2.2.1, HE.out.2.2.2.2.1, HE.out.2.2.2.2.2⟩
    · have e : k = min 20 tss.length := by have := HG.out.1; omega
      have HE := Lib.hid e
      have hz2 : w.heap.size + 1 < wr.heap.size := blk_lt HX.out.2.2.2.2.1
      have hfin := blk_set5 HX.out.2.2.2.2.1 (.int .i64 a) (.int .i64 b) (.string d) (.slice A4 n4 c4) (.slice At k ct)
      obtain ⟨f0, f1, f2, f3, f4, _⟩ := shCells hfin
      obtain ⟨q0, q1, q2, q3, q4, v0, v1, v2, v3, v4⟩ := shCells HX.out.2.2.2.2.1
      clear hfin e
      have hrest : (k < tss.length ∧ ¬ k < 20) ∨ ¬ k < tss.length := by have := HE.out; omega
      rcases hrest with ⟨h1, h2⟩ | h1
      · have t1 : decide ((k : Int) < (tss.length : Int)) = true := by simp; omega
        have t2 : decide ((k : Int) < 20) = false := by simp; omega
        have h3 : ¬ (k : Int) < 20 := by omega
        clear h2 hlt2
        go_wp2_with fail
        refine bodyPost_ret (v := .agg #[.int .i64 a, .int .i64 b, .string d, .slice A4 n4 c4, .slice At k ct]) (by simp [results, Tryz.results33, go_sem, f0, f1, f2, f3, f4]) rfl ⟨_, _, rfl, ?_, ?_, ?_⟩
        · have := sh5_seq HX.out.2.1 HX.out.2.2.2.2.1 (by decide) (.int .i64 a) (.int .i64 b) (.string d) (.slice A4 n4 c4) (.slice At k ct)
          rw [TxtAt, HN4.out]
          exact this
        · have := HX.out.2.2.2.2.2.set5 HX.out.2.2.2.2.1 (.int .i64 a) (.int .i64 b) (.string d) (.slice A4 n4 c4) (.slice At k ct)
          rw [HE.out, cutTab_end] at this
          rw [TabAt, cutTab, List.length_map, List.length_take]
          rw [HE.out]
          exact this
        · exact sh5_below HX.out.1 (by omega) _ _ _ _ _
      · have t1 : decide ((k : Int) < (tss.length : Int)) = false := by simp; omega
        clear hlt2
        go_wp2_with fail
        refine bodyPost_ret (v := .agg #[.int .i64 a, .int .i64 b, .string d, .slice A4 n4 c4, .slice At k ct]) (by simp [results, Tryz.results33, go_sem, f0, f1, f2, f3, f4]) rfl ⟨_, _, rfl, ?_, ?_, ?_⟩
        · have := sh5_seq HX.out.2.1 HX.out.2.2.2.2.1 (by decide) (.int .i64 a) (.int .i64 b) (.string d) (.slice A4 n4 c4) (.slice At k ct)
          rw [TxtAt, HN4.out]
          exact this
        · have := HX.out.2.2.2.2.2.set5 HX.out.2.2.2.2.1 (.int .i64 a) (.int .i64 b) (.string d) (.slice A4 n4 c4) (.slice At k ct)
          rw [HE.out, cutTab_end] at this
          rw [TabAt, cutTab, List.length_map, List.length_take]
          rw [HE.out]
          exact this
        · exact sh5_below HX.out.1 (by omega) _ _ _ _ _
end Go.Proofs.YthbjcihdlhkboaaGreatDoor
