/- PrivacyAll: what the lists say, and the walk. -/
import Derived.Test.YthbjcihdlhkboaaDoorFr1
namespace Go.Proofs.YthbjcihdlhkboaaDoor
set_option linter.unusedSimpArgs false
set_option linter.unusedVariables false
open Go.RowKit Go.Maps Go.Shelf Go.Lib

abbrev nameOne : ByteArray := ⟨#[111, 110, 101]⟩
abbrev nameTwo : ByteArray := ⟨#[116, 119, 111]⟩
abbrev nameNone : ByteArray := ⟨#[110, 111, 110, 101]⟩
theorem word_one : wordE nameOne (validB nameOne) = 0 := by kernel_rfl
theorem word_two : wordE nameTwo (validB nameTwo) = 0 := by kernel_rfl
theorem word_none : wordE nameNone (validB nameNone) = 0 := by kernel_rfl
abbrev allT : ByteArray := ⟨#[97, 108, 108, 111, 119, 32, 98, 111, 116, 104, 32, 97, 108, 108]⟩
abbrev denyT : ByteArray := ⟨#[100, 101, 110, 121, 32, 98, 111, 116, 104, 32, 97, 108, 108]⟩
def wholeRule (allow : Bool) : Rule := ⟨allow, true, true, allL, ⟨#[]⟩⟩
theorem parse_allT : parseF allT = .ok (wholeRule true) := by kernel_rfl
theorem parse_denyT : parseF denyT = .ok (wholeRule false) := by kernel_rfl
theorem whole_fits (allow inn : Bool) (contact : ByteArray) (groups : List ByteArray) (sub : ByteArray) : fitsS (wholeRule allow) inn contact groups sub = true := by
  cases inn <;> kernel_rfl

theorem parseAll_append {x y : List ByteArray} {r : List Rule} (h : parseAll (x ++ y) = .ok r) : ∃ r1 r2, parseAll x = .ok r1 ∧ parseAll y = .ok r2 ∧ r = r1 ++ r2 := by
  induction x generalizing r with
  | nil => exact ⟨[], r, rfl, h, rfl⟩
  | cons t ts ih =>
    simp only [List.cons_append, parseAll] at h ⊢
    cases ht : parseF t with
    | error e => rw [ht] at h; cases h
    | ok q =>
      rw [ht] at h
      cases hts : parseAll (ts ++ y) with
      | error e => rw [hts] at h; cases h
      | ok qs =>
        rw [hts] at h
        cases h
        obtain ⟨r1, r2, h1, h2, rfl⟩ := ih hts
        exact ⟨q :: r1, r2, by rw [h1], h2, rfl⟩

/-- What setting a list leaves where it answers 0. -/
theorem set_zero {L : LS} {name : ByteArray} {ts : List ByteArray} (hw : wordE name (validB name) = 0) (h : (L.set name ts).1 = 0) : ∃ rs, parseAll ts = .ok rs ∧ (L.set name ts).2 = L.put name rs := by
  unfold LS.set at h ⊢
  rw [if_pos hw] at h ⊢
  cases hp : parseAll ts with
  | error c => rw [hp] at h; exact absurd h (parseAll_error hp)
  | ok rs =>
    rw [hp] at h
    refine ⟨rs, rfl, ?_⟩
    simp only at h ⊢
    split at h
    · cases h
    · rename_i hc
      rw [if_neg hc]

/-- The lists of PrivacyAll, whatever was set. -/
structure OnlyTwo (L : LS) : Prop where
  most : L.most = 3
  rules : L.rules = 100
  keys : ∀ p ∈ L.items, p.1 = nameOne ∨ p.1 = nameTwo

theorem OnlyTwo.set {L : LS} (h : OnlyTwo L) {name : ByteArray} (hn : name = nameOne ∨ name = nameTwo) (ts : List ByteArray) : OnlyTwo (L.set name ts).2 := by
  have key : ∀ rs, OnlyTwo (L.put name rs) := fun rs => ⟨h.most, h.rules, fun p hp => by
    rcases List.mem_cons.1 hp with rfl | hp
    · exact hn
    · exact h.keys p (List.mem_filter.1 hp).1⟩
  unfold LS.set
  split
  · split
    · exact h
    · split
      · exact h
      · exact key _
  · exact h

theorem OnlyTwo.few {L : LS} (h : OnlyTwo L) (hd : (L.items.map (·.1)).Nodup) : L.items.length ≤ 2 := by
  have hk := h.keys
  match hi : L.items with
  | [] => simp
  | [_] => simp
  | [_, _] => simp
  | x :: y :: z :: l =>
    rw [hi] at hd hk
    exfalso
    simp only [List.map_cons, List.nodup_cons, List.mem_cons, not_or] at hd
    have hx := hk x (by simp)
    have hy := hk y (by simp)
    have hz := hk z (by simp)
    obtain ⟨⟨a, b, _⟩, ⟨c, _⟩, _⟩ := hd
    rcases hx with hx | hx <;> rcases hy with hy | hy <;> rcases hz with hz | hz <;> simp_all

theorem OnlyTwo.last {L : LS} (h : OnlyTwo L) (hd : (L.items.map (·.1)).Nodup) : L.set nameNone [] = (0, L.put nameNone []) := by
  have hf := h.few hd
  unfold LS.set
  rw [if_pos word_none]
  simp only [parseAll]
  rw [if_neg]
  rintro (h1 | ⟨_, h1⟩)
  · rw [h.rules] at h1
    simp at h1
  · rw [h.most] at h1
    omega

theorem none_allows (L : LS) (inn : Bool) (contact : ByteArray) (groups : List ByteArray) (sub : ByteArray) : (L.put nameNone []).allows nameNone inn contact groups sub = true := by
  have hg := LS.get_put_same L nameNone []
  unfold LS.allows LS.named
  rw [hg]
  simp only [Option.isSome_some, if_true]
  rw [hg]
  rfl

theorem allows_put {L : LS} {name : ByteArray} {rs : List Rule} (hg : L.get name = some rs) (inn : Bool) (contact : ByteArray) (groups : List ByteArray) (sub : ByteArray) : L.allows name inn contact groups sub = firstFit rs inn contact groups sub := by
  unfold LS.allows LS.named
  rw [hg]
  simp only [Option.isSome_some, if_true]
  rw [hg]
  rfl

theorem firstFit_behind {ra rb : List Rule} {allow inn : Bool} {contact : ByteArray} {groups : List ByteArray} {sub : ByteArray} : firstFit ((ra ++ [wholeRule allow]) ++ rb) inn contact groups sub = firstFit (ra ++ [wholeRule allow]) inn contact groups sub := by
  unfold firstFit
  rw [List.find?_append]
  have : ((ra ++ [wholeRule allow]).find? (fun r => fitsS r inn contact groups sub)).isSome = true := by
    rw [List.find?_isSome]
    exact ⟨wholeRule allow, by simp, whole_fits _ _ _ _ _⟩
  obtain ⟨r, hr⟩ := Option.isSome_iff_exists.1 this
  rw [hr]
  rfl

theorem all_same {L : LS} {a b : List ByteArray} {last : ByteArray} {allow : Bool} (hl : parseF last = .ok (wholeRule allow)) (h1 : (L.set nameOne (a ++ [last])).1 = 0) (h2 : ((L.set nameOne (a ++ [last])).2.set nameTwo ((a ++ [last]) ++ b)).1 = 0)
    (inn : Bool) (contact : ByteArray) (groups : List ByteArray) (sub : ByteArray) :
    ((L.set nameOne (a ++ [last])).2.set nameTwo ((a ++ [last]) ++ b)).2.allows nameOne inn contact groups sub = ((L.set nameOne (a ++ [last])).2.set nameTwo ((a ++ [last]) ++ b)).2.allows nameTwo inn contact groups sub := by
  obtain ⟨rs1, hp1, e1⟩ := set_zero word_one h1
  obtain ⟨rs2, hp2, e2⟩ := set_zero word_two h2
  rw [e2, e1]
  obtain ⟨r1, rb, h3, h4, rfl⟩ := parseAll_append hp2
  rw [hp1] at h3
  cases h3
  obtain ⟨ra, r2, h5, h6, rfl⟩ := parseAll_append hp1
  have h7 : parseAll [last] = .ok [wholeRule allow] := by simp [parseAll, hl]
  rw [h7] at h6
  cases h6
  rw [allows_put (LS.get_put_same _ nameTwo _), allows_put (name := nameOne) (rs := ra ++ [wholeRule allow]) (by rw [LS.get_put_other _ _ (by decide)]; exact LS.get_put_same _ _ _), firstFit_behind]

/-- The texts that end the lists. -/
theorem lasts (k : Nat) (hk : k < 2) : ∃ (last : ByteArray) (allow : Bool), (#[.string allT, .string denyT] : Array Value)[k]? = some (.string last) ∧ parseF last = .ok (wholeRule allow) ∧ last.size ≤ 120 := by
  have : k = 0 ∨ k = 1 := by omega
  rcases this with rfl | rfl
  · exact ⟨allT, true, rfl, parse_allT, by decide⟩
  · exact ⟨denyT, false, rfl, parse_denyT, by decide⟩

theorem Seq.join {w : World} {B : Nat} {v : Value} {x y : List ByteArray} {n : Nat} (h : Seq w B 9 1 v n (flatS x ++ flatS y)) (hn : n = x.length + y.length) : Seq w B 9 1 v (x ++ y).length (flatS (x ++ y)) := by
  rw [List.length_append, ← hn, show flatS (x ++ y) = flatS x ++ flatS y from by simp [flatS]]
  exact h

/-- The memory of PrivacyAll in its loop. -/
structure AM (w w2 w3 w' : World) (box : Obj) (A9 : Option Addr) (c9 : Nat) (a : List ByteArray) (k : Nat) : Prop where
  inner : ∃ n D L, n ≤ 2 * k ∧ OnlyTwo L ∧ FM w (w.heap.size + 1) w.heap.size (w.heap.size + 1 + 1) (w.heap.size + 1) n box w' D L
  texts : Seq w' w2.heap.size 9 1 (.slice A9 a.length c9) a.length (flatS a)
  ends : w'.heap[w3.heap.size]? = some (.cells #[.string allT, .string denyT] 9)

set_option maxRecDepth 100000 in
set_option maxHeartbeats 8000000 in
theorem privall_any (w : World) (hT : Tabs w) (v : Value) (ahead : List ByteArray) (hg : Strs w v ahead) (v2 : Value) (behind : List ByteArray) (hg2 : Strs w v2 behind) (q0 : Int) (q1 : ByteArray) (q2 : Value) (q3 : Bool) (contact : ByteArray) (gv : Value) (groups : List ByteArray) (hgr : Strs w gv groups) (sub : ByteArray)
    (hq2 : ∃ A n c, q2 = .slice A n c) :
    Calls Tryd.prog 4 #[v, v2, .agg #[.int .i64 q0, .string q1, q2, .bool q3, .string contact, gv, .string sub]] w fun e w' => e = .returned (.bool true) ∧ Below w.heap.size w w' := by
  obtain ⟨A, cap, hv⟩ : ∃ A cap, v = .slice A ahead.length cap := let ⟨⟨A, cap, h, _⟩, _⟩ := hg; ⟨A, cap, h⟩
  subst hv
  obtain ⟨A1, cap1, hv⟩ : ∃ A cap, v2 = .slice A behind.length cap := let ⟨⟨A, cap, h, _⟩, _⟩ := hg2; ⟨A, cap, h⟩
  subst hv
  obtain ⟨GA, gcap, hv⟩ : ∃ A cap, gv = .slice A groups.length cap := let ⟨⟨A, cap, h, _⟩, _⟩ := hgr; ⟨A, cap, h⟩
  subst hv
  obtain ⟨A2, n2, k2, rfl⟩ := hq2
  have HT := Lib.hid hT
  have HG := Lib.hid hg
  have HG2 := Lib.hid hg2
  have HGR := Lib.hid hgr
  clear hT hg hg2 hgr
  go_enter Tryd.func4, Tryd.ntmps4
  go_wp2_with fail
  refine (new_any 3 100 (by decide) (by decide) (by decide) (by decide) _).mono ?_
  rintro e w1 ⟨rfl, hb1, hl1⟩
  have BX : w1.heap[w.heap.size]? = some (.cells #[.int .i64 q0, .string q1, .slice A2 n2 k2, .bool q3, .string contact, .slice GA groups.length gcap, .string sub] 52) := blk_below (blk_new w _) hb1 (by simp)
  have hW : Below w.heap.size w w1 := Below.trans ((Below.refl _ _).alloc (Nat.le_refl _) _) (hb1.mono (by simp))
  simp only [World.size_alloc] at hl1
  have HF1 := Lib.hid (FM.mk hl1 BX hW)
  clear hb1 hl1 BX hW
  go_wp2_with fail
  refine (wakes17_any _ (HT.out.later HF1.out.below)).mono ?_
  rintro e w2 ⟨rfl, hb2⟩
  have HF2 := Lib.hid (HF1.out.call hb2)
  clear hb2 HF1
  go_wp2_with fail
  refine (texts_20 _ _ ahead (HG.out.below HF2.out.below)).mono ?_
  rintro e w3 ⟨A9, c9, rfl, hb3, hs3⟩
  have HF3 := Lib.hid (HF2.out.call hb3)
  have hm3 : w.heap.size + 1 < w3.heap.size := by have := blk_lt HF3.out.lists.cells; omega
  have hLl : (cutAll ahead 20 120).length ≤ 20 := by rw [cutAll_length]; omega
  have hLs : ∀ t ∈ cutAll ahead 20 120, t.size ≤ 120 := fun t ht => cutAll_size ht
  generalize cutAll ahead 20 120 = a at hs3 hLl hLs ⊢
  have HS3 := Lib.hid hs3
  have HLS := Lib.hid hLs
  have H23 := Lib.hid hb3.size
  clear HF2 hb3 hs3 hLs
  go_wp2_with fail
  go_loopg [34] 2 (fun g s34 wx => ∃ k : Nat, k ≤ 2 ∧ g = 2 - k ∧ s34 = .int .i64 k ∧ AM w w2 w3 wx (.cells #[.int .i64 q0, .string q1, .slice A2 n2 k2, .bool q3, .string contact, .slice GA groups.length gcap, .string sub] 52) A9 c9 a k)
  case atStart =>
    refine ⟨0, by omega, rfl, rfl, ⟨0, _, _, by omega, ⟨rfl, rfl, fun p hp => absurd hp (by simp)⟩, HF3.out.call ((Below.refl _ _).alloc (Nat.le_refl _) _)⟩, HS3.out.alloc _, blk_new _ _⟩
  case round =>
    obtain ⟨k, hk, hgk, rfl, ham⟩ := hrel
    obtain ⟨⟨n, D, L, hn, hot, hfm⟩, hsa, hen⟩ := ham
    have HF := Lib.hid hfm
    have HSA := Lib.hid hsa
    have HEN := Lib.hid hen
    have HOT := Lib.hid hot
    have HK := Lib.hid (And.intro hk (And.intro hgk hn))
    clear hfm hsa hen hot hgk hn HF3 HS3
    have hmb : w.heap.size ≤ w.heap.size + 1 := by omega
    by_cases hlt : k < 2
    · as_aux_lemma =>
      obtain ⟨last, al, hcell, hpl, hls⟩ := lasts k hlt
      have y : wr.cell? ⟨w3.heap.size, k, none⟩ = some (.string last) := (blk_cell HEN.out k).trans hcell
      have t1 : decide ((k : Int) < 2) = true := by simp; omega
      have t2 : (k : Int) < 2 := by omega
      have hw : IntKind.i64.wrap ((k : Int) + 1) = (k : Int) + 1 := IntWalk.i64_in _ (by omega)
      have HPL := Lib.hid hpl
      clear hcell hpl
      obtain ⟨i0, hi, hz0, hz1, hz2⟩ := info_parts strInfo
      go_wp2_with fail
      refine (texts_20 _ _ a (strs_of_seq HSA.out (by omega))).mono ?_
      rintro e w4 ⟨A4, c4, rfl, hb4, hs4⟩
      rw [cutAll_same hLl HLS.out] at hs4 ⊢
      have hq4 := hs4.alloc (.cells #[.string last] 9)
      have hbb4 := hb4.alloc hb4.size (.cells #[.string last] 9)
      clear hs4
      go_wp2_with (at_builtin; refine wpList_append_seq _ rfl _ _ 43 rfl wr.heap.size 9 i0 (.string ⟨#[]⟩) 1 16 Tryd.underlying43 hi hz0 hz1 hz2 rfl _ a.length (flatS a) rfl hq4 ⟨w4.heap.size, 0, none⟩ 1 1 [.string last] rfl rfl ?c1 ?c2 (by decide) ?c3 ?c4 ?c5 ?_)
      case c1 => intro j u hu; match j, hu with | 0, hu => simpa [go_sem, Addr.add] using hu
      case c2 => intro u hu; simp at hu; subst hu; rfl
      case c3 => unfold maxLen; omega
      case c4 => omega
      case c5 => have := hb4.size; simp; omega
      intro v5 w5 hseq5 hgrow5 hat5
      have hb5 : Below wr.heap.size wr w5 := hbb4.grown hgrow5 hbb4.size (fun j hj => (hq4.lt j hj).1)
      obtain ⟨A5, c5, rfl⟩ := hseq5.shape
      have HQ5 := Lib.hid hseq5
      have HF5 := Lib.hid (HF.out.call hb5)
      have HSA5 := Lib.hid (HSA.out.below hb5 (fun k hk => (HSA.out.lt k hk).2))
      have HEN5 := Lib.hid (blk_below HEN.out hb5 (blk_lt HEN.out))
      clear hseq5 hgrow5 hat5 hb5 hb4 hbb4 hq4 HF HSA HEN y
      go_wp2_with fail
      refine (texts_20 _ _ a (strs_of_seq HSA5.out (by omega))).mono ?_
      rintro e w6 ⟨A6, c6, rfl, hb6, hs6⟩
      rw [cutAll_same hLl HLS.out] at hs6 ⊢
      have hq6 := hs6.alloc (.cells #[.string last] 9)
      have hbb6 := hb6.alloc hb6.size (.cells #[.string last] 9)
      clear hs6
      go_wp2_with (at_builtin; refine wpList_append_seq _ rfl _ _ 43 rfl w5.heap.size 9 i0 (.string ⟨#[]⟩) 1 16 Tryd.underlying43 hi hz0 hz1 hz2 rfl _ a.length (flatS a) rfl hq6 ⟨w6.heap.size, 0, none⟩ 1 1 [.string last] rfl rfl ?c1 ?c2 (by decide) ?c3 ?c4 ?c5 ?_)
      case c1 => intro j u hu; match j, hu with | 0, hu => simpa [go_sem, Addr.add] using hu
      case c2 => intro u hu; simp at hu; subst hu; rfl
      case c3 => unfold maxLen; omega
      case c4 => omega
      case c5 => have := hb6.size; simp; omega
      intro v7 w7 hseq7 hgrow7 hat7
      have hb7 : Below w5.heap.size w5 w7 := hbb6.grown hgrow7 hbb6.size (fun j hj => (hq6.lt j hj).1)
      obtain ⟨A7, c7, rfl⟩ := hseq7.shape
      have HQ7 := Lib.hid hseq7
      have HB7 := Lib.hid hb7
      clear hseq7 hgrow7 hat7 hb7 hb6 hbb6 hq6
      go_wp2_with fail
      refine (texts_20 _ _ behind (HG2.out.below (HF5.out.below.trans (HB7.out.mono HF5.out.below.size)))).mono ?_
      rintro e w8 ⟨A8, c8, rfl, hb8, hs8⟩
      have hBl : (cutAll behind 20 120).length ≤ 20 := by rw [cutAll_length]; omega
      have hBs : ∀ t ∈ cutAll behind 20 120, t.size ≤ 120 := fun t ht => cutAll_size ht
      generalize cutAll behind 20 120 = bh at hs8 hBl hBs ⊢
      have HBS := Lib.hid hBs
      have hq8 := HQ7.out.below hb8 (fun k hk => (HQ7.out.lt k hk).2)
      have hsrc := hs8.src _ (fun u hu => flatS_one hu)
      have hb58 : Below w5.heap.size w5 w8 := HB7.out.trans (hb8.mono HB7.out.size)
      clear hs8 hBs
      go_wp2_with (at_builtin; refine wpList_append_src _ rfl _ _ 43 rfl w5.heap.size 9 i0 (.string ⟨#[]⟩) 1 16 Tryd.underlying43 hi hz0 hz1 hz2 rfl (.slice A7 (a.length + 1) c7) (a.length + 1) (flatS a ++ [Value.string last]) rfl hq8 A8 bh.length c8 (flatS bh) rfl hsrc ?c3 ?c4 ?c5 ?_)
      case c3 => unfold maxLen; omega
      case c4 => omega
      case c5 => exact hb58.size
      intro v9 w9 hseq9 hgrow9
      have hb9 : Below w5.heap.size w5 w9 := hb58.grown hgrow9 hb58.size (fun j hj => (hq8.lt j hj).1)
      obtain ⟨A10, c10, rfl⟩ := hseq9.shape
      have HF9 := Lib.hid (HF5.out.call hb9)
      have HSA9 := Lib.hid (HSA5.out.below hb9 (fun k hk => (HSA5.out.lt k hk).2))
      have HEN9 := Lib.hid (blk_below HEN5.out hb9 (blk_lt HEN5.out))
      have HQ1 := Lib.hid (Seq.join (x := a) (y := [last]) (HQ5.out.below hb9 (fun k hk => (HQ5.out.lt k hk).2)) (by simp))
      rw [show flatS a ++ Value.string last :: flatS bh = flatS (a ++ [last]) ++ flatS bh from by simp [flatS]] at hseq9
      have HQ2 := Lib.hid (Seq.join (x := a ++ [last]) (y := bh) hseq9 (by simp))
      clear hseq9 hgrow9 hb9 hb58 hb8 hq8 hsrc HF5 HSA5 HEN5 HQ5 HQ7 HB7
      have hgm : w.heap.size ≠ w.heap.size + 1 := by omega
      have hszs : ∀ t ∈ a ++ [last], t.size ≤ 1000000 := by
        intro t ht
        rcases List.mem_append.1 ht with ht | ht
        · have := HLS.out t ht; omega
        · simp at ht; subst ht; omega
      have hszs2 : ∀ t ∈ (a ++ [last]) ++ bh, t.size ≤ 1000000 := by
        intro t ht
        rcases List.mem_append.1 ht with ht | ht
        · exact hszs t ht
        · have := HBS.out t ht; omega
      obtain ⟨E1, hE1⟩ : ∃ x, (L.set nameOne (a ++ [last])).1 = x := ⟨_, rfl⟩
      obtain ⟨L1, hL1⟩ : ∃ x, (L.set nameOne (a ++ [last])).2 = x := ⟨_, rfl⟩
      obtain ⟨E2, hE2⟩ : ∃ x, (L1.set nameTwo ((a ++ [last]) ++ bh)).1 = x := ⟨_, rfl⟩
      obtain ⟨L2, hL2⟩ : ∃ x, (L1.set nameTwo ((a ++ [last]) ++ bh)).2 = x := ⟨_, rfl⟩
      have HOT1 : OnlyTwo L1 := hL1 ▸ HOT.out.set (.inl rfl) _
      have HOT2 := Lib.hid (show OnlyTwo L2 from hL2 ▸ HOT1.set (.inr rfl) _)
      have hsame : E1 = 0 → E2 = 0 → ∀ inn contact groups sub, L2.allows nameOne inn contact groups sub = L2.allows nameTwo inn contact groups sub := by
        intro h1 h2 inn contact groups sub
        subst hL2 hL1
        exact all_same HPL.out (hE1.trans h1) (hE2.trans h2) inn contact groups sub
      have HSAME := Lib.hid hsame
      have C10 := set_any HF9.out.lists (HT.out.later HF9.out.below) nameOne (by decide) _ (a ++ [last]) (strs_of_seq HQ1.out (by simp; omega)) (by simp; omega) hszs (by have := HK.out.2.2; omega) (by have := blk_lt HF9.out.lists.cells; omega)
      rw [hE1, hL1] at C10
      have HC10 := Lib.hid C10
      have HSZ2 := Lib.hid hszs2
      have HE2 := Lib.hid (And.intro hE2 hL2)
      clear C10 hszs hszs2 hsame HOT1 hE1 hL1 hE2 hL2
      go_wp2_with fail
      refine HC10.out.mono ?_
      rintro e w10 ⟨rfl, n10, D10, hn10, hl10, hg10⟩
      have HF10 := Lib.hid (HF9.out.set hl10 hg10 hgm hmb)
      have HSA10 := Lib.hid (HSA9.out.grown hg10 (.inr (seq_ne_map (m := 0) HSA9.out HF9.out.lists.own)))
      have HQ210 := Lib.hid (HQ2.out.grown hg10 (.inr (seq_ne_map (m := 0) HQ2.out HF9.out.lists.own)))
      have HEN10 := Lib.hid ((hg10.block w3.heap.size (blk_lt HEN9.out) (by simp; omega)).trans HEN9.out)
      have C11 := set_any HF10.out.lists (HT.out.later HF10.out.below) nameTwo (by decide) _ ((a ++ [last]) ++ bh) (strs_of_seq HQ210.out (by simp; omega)) (by simp; omega) HSZ2.out (by have := HK.out.2.2; omega) (by have := blk_lt HF10.out.lists.cells; omega)
      rw [HE2.out.1, HE2.out.2] at C11
      have HC11 := Lib.hid C11
      have HN10 := Lib.hid hn10
      clear C11 hl10 hg10 hn10 HC10 HF9 HSA9 HEN9 HQ1 HQ2
      go_wp2_with fail
      refine HC11.out.mono ?_
      rintro e w11 ⟨rfl, n11, D11, hn11, hl11, hg11⟩
      have HF11 := Lib.hid (HF10.out.set hl11 hg11 hgm hmb)
      have HSA11 := Lib.hid (HSA10.out.grown hg11 (.inr (seq_ne_map (m := 0) HSA10.out HF10.out.lists.own)))
      have HEN11 := Lib.hid ((hg11.block w3.heap.size (blk_lt HEN10.out) (by simp; omega)).trans HEN10.out)
      have HN11 := Lib.hid hn11
      clear hl11 hg11 hn11 HC11 HF10 HSA10 HEN10 HQ210
      by_cases h1 : E1 = 0
      · by_cases h2 : E2 = 0
        · as_aux_lemma =>
          obtain ⟨B1, hB1⟩ : ∃ x, L2.allows nameOne q3 contact groups sub = x := ⟨_, rfl⟩
          have hB2 : L2.allows nameTwo q3 contact groups sub = B1 := by rw [← hB1]; exact (HSAME.out h1 h2 _ _ _ _).symm
          have HEQ1 := Lib.hid hB1
          have HEQ2 := Lib.hid hB2
          subst h1
          subst h2
          clear hB1 hB2
          go_wp2_with fail
          have HC0 := Lib.hid (And.intro (HF11.out.lists.below ((Below.refl w11.heap.size w11).drew)) (And.intro (HGR.out.below HF11.out.below.drew) (And.intro (blk_drew HF11.out.box) ((Below.refl w11.heap.size w11).drew))))
          refine wp_region_held_drew (S := (fun w' => w'.cell? ⟨w.heap.size, 3, none⟩ = some (.bool q3) ∧ w'.cell? ⟨w.heap.size, 4, none⟩ = some (.string contact) ∧ w'.cell? ⟨w.heap.size, 5, none⟩ = some (.slice GA groups.length gcap) ∧ w'.cell? ⟨w.heap.size, 6, none⟩ = some (.string sub))) (by kernel_rfl) ?_ (fun hHeld0 => ?_)
          · exact ⟨blk_cell HC0.out.2.2.1 3, blk_cell HC0.out.2.2.1 4, blk_cell HC0.out.2.2.1 5, blk_cell HC0.out.2.2.1 6⟩
          refine held_take (v := ?_) 0 rfl rfl (by kernel_rfl) (by kernel_rfl) (by kernel_rfl) (fun _ _ _ h => h) (by rfl) ?_ (by assumption) ?_
          rotate_left
          · intro w hSw; (try dsimp only at hSw); go_simp; (try with_reducible rfl)
          try simp only [Act.put, List.setIfInBounds_toArray, List.set_cons_zero, List.set_cons_succ]
          refine held_take (v := ?_) 1 rfl rfl (by kernel_rfl) (by kernel_rfl) (by kernel_rfl) (fun _ _ _ h => h) (by rfl) ?_ (by assumption) ?_
          rotate_left
          · intro w hSw; (try dsimp only at hSw); go_simp; (try with_reducible rfl)
          try simp only [Act.put, List.setIfInBounds_toArray, List.set_cons_zero, List.set_cons_succ]
          refine held_take (v := ?_) 2 rfl rfl (by kernel_rfl) (by kernel_rfl) (by kernel_rfl) (fun _ _ _ h => h) (by rfl) ?_ (by assumption) ?_
          rotate_left
          · intro w hSw; (try dsimp only at hSw); go_simp; (try with_reducible rfl)
          try simp only [Act.put, List.setIfInBounds_toArray, List.set_cons_zero, List.set_cons_succ]
          refine held_take (v := ?_) 3 rfl rfl (by kernel_rfl) (by kernel_rfl) (by kernel_rfl) (fun _ _ _ h => h) (by rfl) ?_ (by assumption) ?_
          rotate_left
          · intro w hSw; (try dsimp only at hSw); go_simp; (try with_reducible rfl)
          try simp only [Act.put, List.setIfInBounds_toArray, List.set_cons_zero, List.set_cons_succ]
          refine held_take (v := ?_) 4 rfl rfl (by kernel_rfl) (by kernel_rfl) (by kernel_rfl) (fun _ _ _ h => h) (by rfl) ?_ (by assumption) ?_
          rotate_left
          · intro w hSw; (try dsimp only at hSw); go_simp; (try with_reducible rfl)
          try simp only [Act.put, List.setIfInBounds_toArray, List.set_cons_zero, List.set_cons_succ]
          refine held_take (v := ?_) 5 rfl rfl (by kernel_rfl) (by kernel_rfl) (by kernel_rfl) (fun _ _ _ h => h) (by rfl) ?_ (by assumption) ?_
          rotate_left
          · intro w hSw; (try dsimp only at hSw); go_simp; (try with_reducible rfl)
          try simp only [Act.put, List.setIfInBounds_toArray, List.set_cons_zero, List.set_cons_succ]
          refine held_take (v := ?_) 6 rfl rfl (by kernel_rfl) (by kernel_rfl) (by kernel_rfl) (fun _ _ _ h => h) (by rfl) ?_ (by assumption) ?_
          rotate_left
          · intro w hSw; (try dsimp only at hSw); go_simp; (try with_reducible rfl)
          try simp only [Act.put, List.setIfInBounds_toArray, List.set_cons_zero, List.set_cons_succ]
          refine held_take (v := ?_) 7 rfl rfl (by kernel_rfl) (by kernel_rfl) (by kernel_rfl) (fun _ _ _ h => h) (by rfl) ?_ (by assumption) ?_
          rotate_left
          · intro w hSw; (try dsimp only at hSw); go_simp; (try with_reducible rfl)
          try simp only [Act.put, List.setIfInBounds_toArray, List.set_cons_zero, List.set_cons_succ]
          refine held_take (v := ?_) 8 rfl rfl (by kernel_rfl) (by kernel_rfl) (by kernel_rfl) (fun _ _ _ h => h) (by rfl) ?_ (by assumption) ?_
          rotate_left
          · intro w hSw; (try dsimp only at hSw); go_simp; (try with_reducible rfl)
          try simp only [Act.put, List.setIfInBounds_toArray, List.set_cons_zero, List.set_cons_succ]
          refine held_take (v := ?_) 10 rfl rfl (by kernel_rfl) (by kernel_rfl) (by kernel_rfl) (fun _ _ _ h => h) (by rfl) ?_ (by assumption) ?_
          rotate_left
          · intro w hSw; (try dsimp only at hSw); go_simp; (try with_reducible rfl)
          try simp only [Act.put, List.setIfInBounds_toArray, List.set_cons_zero, List.set_cons_succ]
          refine held_take (v := ?_) 11 rfl rfl (by kernel_rfl) (by kernel_rfl) (by kernel_rfl) (fun _ _ _ h => h) (by rfl) ?_ (by assumption) ?_
          rotate_left
          · intro w hSw; (try dsimp only at hSw); go_simp; (try with_reducible rfl)
          try simp only [Act.put, List.setIfInBounds_toArray, List.set_cons_zero, List.set_cons_succ]
          refine held_take (v := ?_) 12 rfl rfl (by kernel_rfl) (by kernel_rfl) (by kernel_rfl) (fun _ _ _ h => h) (by rfl) ?_ (by assumption) ?_
          rotate_left
          · intro w hSw; (try dsimp only at hSw); go_simp; (try with_reducible rfl)
          try simp only [Act.put, List.setIfInBounds_toArray, List.set_cons_zero, List.set_cons_succ]
          refine held_take (v := ?_) 13 rfl rfl (by kernel_rfl) (by kernel_rfl) (by kernel_rfl) (fun _ _ _ h => h) (by rfl) ?_ (by assumption) ?_
          rotate_left
          · intro w hSw; (try dsimp only at hSw); go_simp; (try with_reducible rfl)
          try simp only [Act.put, List.setIfInBounds_toArray, List.set_cons_zero, List.set_cons_succ]
          refine held_take (v := ?_) 14 rfl rfl (by kernel_rfl) (by kernel_rfl) (by kernel_rfl) (fun _ _ _ h => h) (by rfl) ?_ (by assumption) ?_
          rotate_left
          · intro w hSw; (try dsimp only at hSw); go_simp; (try with_reducible rfl)
          try simp only [Act.put, List.setIfInBounds_toArray, List.set_cons_zero, List.set_cons_succ]
          refine held_take (v := ?_) 15 rfl rfl (by kernel_rfl) (by kernel_rfl) (by kernel_rfl) (fun _ _ _ h => h) (by rfl) ?_ (by assumption) ?_
          rotate_left
          · intro w hSw; (try dsimp only at hSw); go_simp; (try with_reducible rfl)
          try simp only [Act.put, List.setIfInBounds_toArray, List.set_cons_zero, List.set_cons_succ]
          refine held_take (v := ?_) 16 rfl rfl (by kernel_rfl) (by kernel_rfl) (by kernel_rfl) (fun _ _ _ h => h) (by rfl) ?_ (by assumption) ?_
          rotate_left
          · intro w hSw; (try dsimp only at hSw); go_simp; (try with_reducible rfl)
          try simp only [Act.put, List.setIfInBounds_toArray, List.set_cons_zero, List.set_cons_succ]
          refine held_take (v := ?_) 17 rfl rfl (by kernel_rfl) (by kernel_rfl) (by kernel_rfl) (fun _ _ _ h => h) (by rfl) ?_ (by assumption) ?_
          rotate_left
          · intro w hSw; (try dsimp only at hSw); go_simp; (try with_reducible rfl)
          try simp only [Act.put, List.setIfInBounds_toArray, List.set_cons_zero, List.set_cons_succ]
          refine held_take (v := ?_) 18 rfl rfl (by kernel_rfl) (by kernel_rfl) (by kernel_rfl) (fun _ _ _ h => h) (by rfl) ?_ (by assumption) ?_
          rotate_left
          · intro w hSw; (try dsimp only at hSw); go_simp; (try with_reducible rfl)
          try simp only [Act.put, List.setIfInBounds_toArray, List.set_cons_zero, List.set_cons_succ]
          refine held_step 9 rfl (by kernel_rfl) (by rfl) (fun K hK => ?_)
          go_simp
          have C1 := allows_any HC0.out.1 nameOne q3 contact (.slice GA groups.length gcap) groups sub (by decide) HC0.out.2.1
          rw [HEQ1.out] at C1
          refine C1.mono ?_
          rintro e v1 ⟨rfl, hv1⟩
          have HC1 := Lib.hid (And.intro (HC0.out.1.below hv1) (And.intro (HC0.out.2.1.below hv1) (And.intro (blk_below HC0.out.2.2.1 hv1 (blk_lt HC0.out.2.2.1)) (HC0.out.2.2.2.trans (hv1.mono HC0.out.2.2.2.size)))))
          clear C1 hv1
          try go_wp2_with fail
          refine hK.out _ _ ?_ (fun hHeld1 => ?_)
          · exact ⟨blk_cell HC1.out.2.2.1 3, blk_cell HC1.out.2.2.1 4, blk_cell HC1.out.2.2.1 5, blk_cell HC1.out.2.2.1 6⟩
          clear hK K hHeld0
          try simp only [Act.put, List.setIfInBounds_toArray, List.set_cons_zero, List.set_cons_succ]
          refine held_step 19 rfl (by kernel_rfl) (by rfl) (fun K hK => ?_)
          go_simp
          have C2 := allows_any HC1.out.1 nameTwo q3 contact (.slice GA groups.length gcap) groups sub (by decide) HC1.out.2.1
          rw [HEQ2.out] at C2
          refine C2.mono ?_
          rintro e v2 ⟨rfl, hv2⟩
          have HC2 := Lib.hid (And.intro (HC1.out.1.below hv2) (And.intro (HC1.out.2.1.below hv2) (And.intro (blk_below HC1.out.2.2.1 hv2 (blk_lt HC1.out.2.2.1)) (HC1.out.2.2.2.trans (hv2.mono HC1.out.2.2.2.size)))))
          clear C2 hv2
          try go_wp2_with fail
          refine hK.out _ _ ?_ (fun hHeld2 => ?_)
          · exact ⟨blk_cell HC2.out.2.2.1 3, blk_cell HC2.out.2.2.1 4, blk_cell HC2.out.2.2.1 5, blk_cell HC2.out.2.2.1 6⟩
          clear hK K hHeld1
          try simp only [Act.put, List.setIfInBounds_toArray, List.set_cons_zero, List.set_cons_succ]
          refine held_take (v := ?_) 20 rfl rfl (by kernel_rfl) (by kernel_rfl) (by kernel_rfl) (fun _ _ _ h => h) (by rfl) ?_ (by assumption) ?_
          rotate_left
          · intro w hSw; (try dsimp only at hSw); go_simp; (try with_reducible rfl)
          try simp only [Act.put, List.setIfInBounds_toArray, List.set_cons_zero, List.set_cons_succ]
          refine wpAnyH_done (by kernel_rfl) ?_ _
          clear hHeld2
          go_wp2_with fail
          go_roundg (2 - (k + 1))
          case measure => have := HK.out.2.1; omega
          case rel => exact ⟨k + 1, by omega, rfl, by go_num, ⟨n11, D11, L2, by have := HN10.out; have := HN11.out; have := HK.out.2.2; omega, HOT2.out, HF11.out.call HC2.out.2.2.2⟩, HSA11.out.below HC2.out.2.2.2 (fun k hk => (HSA11.out.lt k hk).2), blk_below HEN11.out HC2.out.2.2.2 (blk_lt HEN11.out)⟩
        · as_aux_lemma =>
          subst h1
          have f1 : (E2 == 0) = false := by simpa using h2
          have f2 : (E2 != 0) = true := by simpa using h2
          clear h2
          go_wp2_with fail
          go_roundg (2 - (k + 1))
          case measure => have := HK.out.2.1; omega
          case rel => exact ⟨k + 1, by omega, rfl, by go_num, ⟨n11, D11, L2, by have := HN10.out; have := HN11.out; have := HK.out.2.2; omega, HOT2.out, HF11.out⟩, HSA11.out, HEN11.out⟩
      · as_aux_lemma =>
        have f1 : (E1 == 0) = false := by simpa using h1
        have f2 : (E1 != 0) = true := by simpa using h1
        clear h1
        go_wp2_with fail
        go_roundg (2 - (k + 1))
        case measure => have := HK.out.2.1; omega
        case rel => exact ⟨k + 1, by omega, rfl, by go_num, ⟨n11, D11, L2, by have := HN10.out; have := HN11.out; have := HK.out.2.2; omega, HOT2.out, HF11.out⟩, HSA11.out, HEN11.out⟩
    · have e : k = 2 := by omega
      subst e
      have t1 : decide ((2 : Int) < 2) = false := by decide
      clear hk
      have C12 := set_any HF.out.lists (HT.out.later HF.out.below) nameNone (by decide) (.slice none 0 0) [] (Strs.nil _) (by decide) (fun t ht => absurd ht (by simp)) (by have := HK.out.2.2; omega) (by have := blk_lt HF.out.lists.cells; omega)
      rw [HOT.out.last HF.out.lists.apart] at C12
      have HC12 := Lib.hid C12
      clear C12
      go_wp2_with fail
      refine HC12.out.mono ?_
      rintro e w12 ⟨he, n12, D12, hn12, hl12, hg12⟩
      obtain rfl : e = .returned (.int .i64 0) := he
      have HF12 := Lib.hid (HF.out.set hl12 hg12 (by omega) hmb)
      have z3 : w12.cell? ⟨w.heap.size, 3, none⟩ = some (.bool q3) := blk_cell HF12.out.box 3
      have z4 : w12.cell? ⟨w.heap.size, 4, none⟩ = some (.string contact) := blk_cell HF12.out.box 4
      have z5 : w12.cell? ⟨w.heap.size, 5, none⟩ = some (.slice GA groups.length gcap) := blk_cell HF12.out.box 5
      have z6 : w12.cell? ⟨w.heap.size, 6, none⟩ = some (.string sub) := blk_cell HF12.out.box 6
      have C13 := allows_any HF12.out.lists nameNone q3 contact (.slice GA groups.length gcap) groups sub (by decide) (HGR.out.below HF12.out.below)
      rw [none_allows] at C13
      have HC13 := Lib.hid C13
      clear C13 hl12 hg12 hn12 HC12
      go_wp2_with fail
      refine HC13.out.mono ?_
      rintro e w13 ⟨rfl, hb13⟩
      go_wp2_with fail
      go_ret
      exact ⟨rfl, HF12.out.below.trans (hb13.mono HF12.out.below.size)⟩

end Go.Proofs.YthbjcihdlhkboaaDoor
