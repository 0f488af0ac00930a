/- PrivacyFront: what the lists say, and the walk. -/
import Derived.Test.YthbjcihdlhkboaaDoorTx2
import Derived.Test.YthbjcihdlhkboaaDoorHeld
namespace Go.Proofs.YthbjcihdlhkboaaDoor
set_option linter.unusedSimpArgs false
set_option linter.unusedVariables false
open Go.RowKit Go.Maps Go.Shelf Go.Lib

abbrev nameOld : ByteArray := ⟨#[111, 108, 100]⟩
abbrev nameNew : ByteArray := ⟨#[110, 101, 119]⟩
abbrev allL : ByteArray := ⟨#[97, 108, 108]⟩
def frontRule (allow inn : Bool) : Rule := ⟨allow, inn, !inn, allL, ⟨#[]⟩⟩
def frontText (allow inn : Bool) : ByteArray :=
  match allow, inn with
  | true, true => ⟨#[97, 108, 108, 111, 119, 32, 105, 110, 32, 97, 108, 108]⟩
  | true, false => ⟨#[97, 108, 108, 111, 119, 32, 111, 117, 116, 32, 97, 108, 108]⟩
  | false, true => ⟨#[100, 101, 110, 121, 32, 105, 110, 32, 97, 108, 108]⟩
  | false, false => ⟨#[100, 101, 110, 121, 32, 111, 117, 116, 32, 97, 108, 108]⟩
theorem parse_front (allow inn : Bool) : parseF (frontText allow inn) = .ok (frontRule allow inn) := by
  cases allow <;> cases inn <;> kernel_rfl
theorem word_old : wordE nameOld (validB nameOld) = 0 := by kernel_rfl
theorem word_new : wordE nameNew (validB nameNew) = 0 := by kernel_rfl
abbrev L3 : LS := ⟨3, 100, ⟨#[]⟩, []⟩

theorem cutAll_same {l : List ByteArray} {most long : Nat} (hl : l.length ≤ most) (hs : ∀ t ∈ l, t.size ≤ long) : cutAll l most long = l := by
  unfold cutAll
  rw [List.take_of_length_le hl]
  conv => rhs; rw [← List.map_id l]
  apply List.map_congr_left
  intro t ht
  have := hs t ht
  unfold cutTo
  rw [if_neg (by omega)]
  rfl

theorem parseAll_error {ts : List ByteArray} {c : Int} (h : parseAll ts = .error c) : c ≠ 0 := by
  induction ts with
  | nil => cases h
  | cons t ts ih =>
    simp only [parseAll] at h
    cases ht : parseF t with
    | error e => rw [ht] at h; cases h; exact parseF_err ht
    | ok r =>
      rw [ht] at h
      cases hts : parseAll ts with
      | error e => rw [hts] at h; cases h; exact ih hts
      | ok rs => rw [hts] at h; cases h

theorem front_old {ts : List ByteArray} (hl : ts.length ≤ 20) : (∃ c, c ≠ 0 ∧ L3.set nameOld ts = (c, L3)) ∨ ∃ rs, parseAll ts = .ok rs ∧ L3.set nameOld ts = (0, L3.put nameOld rs) := by
  unfold LS.set
  rw [if_pos word_old]
  cases h : parseAll ts with
  | error c => exact .inl ⟨c, parseAll_error h, rfl⟩
  | ok rs =>
    have := (parseAll_mem h).1
    refine .inr ⟨rs, rfl, ?_⟩
    simp only
    rw [if_neg]
    rintro (h | ⟨_, h⟩)
    · have h' : (100 : Int) < (rs.length : Int) := h
      omega
    · have h' : (3 : Int) ≤ 0 := h
      omega

theorem front_new {ts : List ByteArray} {rs : List Rule} (hl : ts.length ≤ 20) (h : parseAll ts = .ok rs) (allow inn : Bool) : (L3.put nameOld rs).set nameNew (frontText allow inn :: ts) = (0, (L3.put nameOld rs).put nameNew (frontRule allow inn :: rs)) := by
  have hlen := (parseAll_mem h).1
  have hp : parseAll (frontText allow inn :: ts) = .ok (frontRule allow inn :: rs) := by simp [parseAll, parse_front, h]
  unfold LS.set
  rw [if_pos word_new, hp]
  simp only
  rw [if_neg]
  rintro (h | ⟨_, h⟩)
  · have h' : (100 : Int) < ((frontRule allow inn :: rs).length : Int) := h
    simp at h'
    omega
  · have h' : (3 : Int) ≤ 1 := h
    omega

theorem front_fits (allow inn : Bool) (contact : ByteArray) (groups : List ByteArray) (sub : ByteArray) : fitsS (frontRule allow inn) inn contact groups sub = true := by
  cases inn <;> kernel_rfl
theorem front_not (allow inn : Bool) (contact : ByteArray) (groups : List ByteArray) (sub : ByteArray) : fitsS (frontRule allow inn) (!inn) contact groups sub = false := by
  cases inn <;> kernel_rfl

theorem front_get_new (rs : List Rule) (allow inn : Bool) : ((L3.put nameOld rs).put nameNew (frontRule allow inn :: rs)).get nameNew = some (frontRule allow inn :: rs) := LS.get_put_same _ _ _
theorem front_get_old (rs : List Rule) (allow inn : Bool) : ((L3.put nameOld rs).put nameNew (frontRule allow inn :: rs)).get nameOld = some rs := by
  rw [LS.get_put_other _ _ (by decide)]
  exact LS.get_put_same _ _ _

theorem front_decides {rs : List Rule} {allow inn : Bool} {contact : ByteArray} {groups : List ByteArray} {sub : ByteArray} : ((L3.put nameOld rs).put nameNew (frontRule allow inn :: rs)).allows nameNew inn contact groups sub = allow := by
  unfold LS.allows LS.named
  rw [front_get_new]
  simp only [Option.isSome_some, if_true]
  rw [front_get_new]
  simp only [Option.getD_some]
  unfold firstFit
  rw [List.find?_cons_of_pos (p := fun r => fitsS r inn contact groups sub) (front_fits allow inn contact groups sub)]
  rfl
theorem front_leaves {rs : List Rule} {allow inn : Bool} {contact : ByteArray} {groups : List ByteArray} {sub : ByteArray} : ((L3.put nameOld rs).put nameNew (frontRule allow inn :: rs)).allows nameNew (!inn) contact groups sub = firstFit rs (!inn) contact groups sub := by
  unfold LS.allows LS.named
  rw [front_get_new]
  simp only [Option.isSome_some, if_true]
  rw [front_get_new]
  simp only [Option.getD_some]
  unfold firstFit
  rw [List.find?_cons_of_neg (p := fun r => fitsS r (!inn) contact groups sub) (by rw [front_not]; decide)]
theorem front_was {rs : List Rule} {allow inn : Bool} {contact : ByteArray} {groups : List ByteArray} {sub : ByteArray} : ((L3.put nameOld rs).put nameNew (frontRule allow inn :: rs)).allows nameOld (!inn) contact groups sub = firstFit rs (!inn) contact groups sub := by
  unfold LS.allows LS.named
  rw [front_get_old]
  simp only [Option.isSome_some, if_true]
  rw [front_get_old]
  rfl


/-- The memory of PrivacyFront: the lists, who is asked about. -/
structure FM (w : World) (B g lb mb n : Nat) (box : Obj) (w' : World) (D : DataW Value) (L : LS) : Prop where
  lists : LAt w' B lb mb n D L
  box : w'.heap[g]? = some box
  below : Below w.heap.size w w'
theorem FM.call {w w' w'' : World} {B g lb mb n : Nat} {box : Obj} {D : DataW Value} {L : LS} (h : FM w B g lb mb n box w' D L) (hb : Below w'.heap.size w' w'') : FM w B g lb mb n box w'' D L :=
  ⟨h.lists.below hb, blk_below h.box hb (blk_lt h.box), h.below.trans (hb.mono h.below.size)⟩
theorem FM.set {w w' w'' : World} {B g lb mb n n' : Nat} {box : Obj} {D D' : DataW Value} {L L' : LS} (h : FM w B g lb mb n box w' D L) (hl : LAt w'' B lb mb n' D' L') (hg : w'.grownBy w'' (some mb)) (hne : g ≠ mb) (hmb : w.heap.size ≤ mb) : FM w B g lb mb n' box w'' D' L' :=
  ⟨hl, (hg.block g (blk_lt h.box) (by simpa using hne)).trans h.box, h.below.trans (below_of_grown hg hmb h.below.size)⟩
theorem texts_20 (w : World) (v : Value) (l : List ByteArray) (hg : Strs w v l) :
    Calls Tryd.prog 15 #[v, .int .i64 20, .int .i64 120] w fun e w' => ∃ A cap, e = .returned (.slice A (cutAll l 20 120).length cap) ∧ Below w.heap.size w w' ∧
      Seq w' w.heap.size 9 1 (.slice A (cutAll l 20 120).length cap) (cutAll l 20 120).length (flatS (cutAll l 20 120)) := texts_any w v l hg 20 120 (by decide) (by decide)

set_option maxRecDepth 100000 in
set_option maxHeartbeats 8000000 in
theorem front_any (w : World) (hT : Tabs w) (v : Value) (texts : List ByteArray) (hg : Strs w v texts) (allow inn : Bool) (q0 : Int) (q1 : ByteArray) (q2 : Value) (q3 : Bool) (contact : ByteArray) (gv : Value) (groups : List ByteArray) (hgr : Strs w gv groups) (sub : ByteArray)
    (hq2 : ∃ A n c, q2 = .slice A n c) :
    Calls Tryd.prog 5 #[.agg #[v, .bool allow, .bool inn, .int .i64 q0, .string q1, q2, .bool q3, .string contact, gv, .string sub]] w fun e w' => e = .returned (.bool true) ∧ Below w.heap.size w w' := by
  obtain ⟨A, cap, hv⟩ : ∃ A cap, v = .slice A texts.length cap := let ⟨⟨A, cap, h, _⟩, _⟩ := hg; ⟨A, cap, h⟩
  subst hv
  obtain ⟨GA, gcap, hv⟩ : ∃ A cap, gv = .slice A groups.length cap := let ⟨⟨A, cap, h, _⟩, _⟩ := hgr; ⟨A, cap, h⟩
  subst hv
  obtain ⟨A2, n2, k2, rfl⟩ := hq2
  have HT := Lib.hid hT
  have HG := Lib.hid hg
  have HGR := Lib.hid hgr
  clear hT hg hgr
  go_enter Tryd.func5, Tryd.ntmps5
  go_wp2_with fail
  go_cut [3, 4, 5, 6] (fun s3 s4 s5 s6 wx => s3 = .slice A texts.length cap ∧ s4 = .bool allow ∧ s5 = .bool inn ∧ ∃ g, s6 = .pointer (some ⟨g, 0, none⟩) ∧ Below w.heap.size w wx ∧ wx.heap[g]? = some (.cells #[.int .i64 q0, .string q1, .slice A2 n2 k2, .bool q3, .string contact, .slice GA groups.length gcap, .string sub] 52) ∧ w.heap.size ≤ g)
  case first =>
    go_region
    go_wp2_with fail
    go_meet
    exact ⟨rfl, rfl, rfl, _, rfl, Below.drew (((Below.refl _ _).alloc (Nat.le_refl _) _).alloc (by simp) _), blk_drew (blk_new' _ (by simp)), by omega⟩
  case rest =>
    obtain ⟨rfl, rfl, rfl, g, rfl, hW, BX, hgl⟩ := hcut
    have hgc := blk_lt BX
    have HF0 := Lib.hid (And.intro hW BX)
    clear hW BX
    go_wp2_with fail
    refine (new_any 3 100 (by decide) (by decide) (by decide) (by decide) _).mono ?_
    rintro e w1 ⟨rfl, hb1, hl1⟩
    have HF1 := Lib.hid (FM.mk hl1 (blk_below HF0.out.2 hb1 hgc) (HF0.out.1.trans (hb1.mono HF0.out.1.size)))
    clear hb1 hl1
    have hmb : w.heap.size ≤ wc.heap.size := HF0.out.1.size
    clear HF0
    go_wp2_with fail
    refine (wakes17_any _ (HT.out.later HF1.out.below)).mono ?_
    rintro e w2 ⟨rfl, hb2⟩
    have HF2 := Lib.hid (HF1.out.call hb2)
    clear HF1 hb2
    go_wp2_with fail
    refine (texts_20 _ _ texts (HG.out.below HF2.out.below)).mono ?_
    rintro e w3 ⟨A9, c9, rfl, hb3, hs3⟩
    have HF3 := Lib.hid (HF2.out.call hb3)
    have hLl : (cutAll texts 20 120).length ≤ 20 := by rw [cutAll_length]; omega
    have hLs : ∀ t ∈ cutAll texts 20 120, t.size ≤ 120 := fun t ht => cutAll_size ht
    generalize cutAll texts 20 120 = L at hs3 hLl hLs ⊢
    have HS3 := Lib.hid hs3
    have h23 := hb3.size
    have HLS := Lib.hid hLs
    clear HF2 hb3 hs3 hLs
    obtain ⟨pre, hpre⟩ : ∃ p : ByteArray, p = if allow then ⟨#[97, 108, 108, 111, 119, 32]⟩ else ⟨#[100, 101, 110, 121, 32]⟩ := ⟨_, rfl⟩
    have HPRE := Lib.hid hpre
    clear hpre
    go_upto_if 35 with fail
    go_cut [10] (fun s10 wx => s10 = .string pre ∧ w3 = wx)
    case first =>
      cases allow
      · go_wp2_with fail
        go_meet
        exact ⟨by rw [HPRE.out]; rfl, rfl⟩
      · go_wp2_with fail
        go_meet
        exact ⟨by rw [HPRE.out]; rfl, rfl⟩
    case rest =>
    obtain ⟨rfl, rfl⟩ := hcut
    obtain ⟨front, hfr⟩ : ∃ p : ByteArray, p = frontText allow inn := ⟨_, rfl⟩
    have HFR := Lib.hid hfr
    clear hfr
    have hps : pre.size ≤ 6 := by rw [HPRE.out]; cases allow <;> decide
    have hp6 : ¬ 9223372036854775807 < pre.size + 6 := by omega
    have hp7 : ¬ 9223372036854775807 < pre.size + 7 := by omega
    clear hps
    go_upto_if 36 with fail
    go_cut [10] (fun s10 wx => s10 = .string front ∧ w3 = wx)
    case first =>
      cases inn
      · go_wp2_with fail
        go_meet
        exact ⟨by rw [HFR.out, HPRE.out]; cases allow <;> rfl, rfl⟩
      · go_wp2_with fail
        go_meet
        exact ⟨by rw [HFR.out, HPRE.out]; cases allow <;> rfl, rfl⟩
    case rest =>
    obtain ⟨rfl, rfl⟩ := hcut
    clear HPRE hp6 hp7
    go_wp2_with fail
    refine (texts_20 _ _ L (strs_of_seq HS3.out (by omega))).mono ?_
    rintro e w4 ⟨A10, c10, rfl, hb4, hs4⟩
    rw [cutAll_same hLl HLS.out] at hs4 ⊢
    have HF4 := Lib.hid (HF3.out.call hb4)
    have HS4 := Lib.hid (HS3.out.below hb4 (fun k hk => (HS3.out.lt k hk).2))
    have HQ4 := Lib.hid hs4
    have hw24 : w2.heap.size ≤ w4.heap.size := Nat.le_trans h23 hb4.size
    clear HF3 HS3 hb4 hs4
    go_wp2_with fail
    have hgm : g ≠ wc.heap.size := by omega
    have C5 := set_any HF4.out.lists (HT.out.later HF4.out.below) nameOld (by decide) _ L (strs_of_seq HQ4.out (by omega)) (by omega) (fun t ht => by have := HLS.out t ht; omega) (by decide) (by have := blk_lt HF4.out.lists.cells; omega)
    rcases front_old hLl with ⟨c, hc, hset⟩ | ⟨rs, hpa, hset⟩
    · as_aux_lemma =>
      rw [hset] at C5
      have hc1 : (c == 0) = false := by simpa using hc
      have hc2 : (c != 0) = true := by simpa using hc
      clear hc hset
      refine C5.mono ?_
      rintro e w5 ⟨he, n5, D5, hn5, hl5, hg5⟩
      obtain rfl : e = .returned (.int .i64 c) := he
      have HB5 := Lib.hid (HF4.out.set hl5 hg5 hgm hmb).below
      clear hl5 hg5 hn5 C5
      go_wp2_with fail
      go_ret
      exact ⟨rfl, HB5.out⟩
    · as_aux_lemma =>
      rw [hset] at C5
      have HPA := Lib.hid hpa
      clear hset hpa
      refine C5.mono ?_
      rintro e w5 ⟨he, n5, D5, hn5, hl5, hg5⟩
      obtain rfl : e = .returned (.int .i64 0) := he
      have HF5 := Lib.hid (HF4.out.set hl5 hg5 hgm hmb)
      have HS5 := HS4.out.grown hg5 (.inr (seq_ne_map (m := 0) HS4.out HF4.out.lists.own))
      have hdst : Seq (w5.alloc (.cells #[.string front] 9)) w5.heap.size 9 1 (.slice (some ⟨w5.heap.size, 0, none⟩) 1 1) 1 [.string front] :=
        ⟨rfl, .inr ⟨w5.heap.size, 0, 1, #[.string front], rfl, Nat.le_refl _, blk_new _ _, Nat.le_refl _, by decide, by simp, rfl⟩⟩
      have hsrc := (HS5.alloc (.cells #[.string front] 9)).src _ (fun u hu => flatS_one hu)
      obtain ⟨i0, hi, hz0, hz1, hz2⟩ := info_parts strInfo
      clear hl5 hg5 HF4 HS4 HQ4 C5 HS5
      go_wp2_with (at_builtin; refine wpList_append_src _ rfl _ _ 43 rfl w5.heap.size 9 i0 (.string ⟨#[]⟩) 1 16 Tryd.underlying43 hi hz0 hz1 hz2 rfl _ 1 [.string front] rfl hdst A9 L.length c9 (flatS L) rfl hsrc ?c3 ?c4 ?c5 ?_)
      case c3 => unfold maxLen; omega
      case c4 => omega
      case c5 => simp
      intro v' w6 hseq6 hgrow6
      have hb6 : Below w5.heap.size w5 w6 := ((Below.refl _ _).alloc (Nat.le_refl _) _).grown hgrow6 (by simp) (fun j hj => by simp [Value.ownBlock] at hj; omega)
      obtain ⟨A6, c6, rfl⟩ := hseq6.shape
      have hstr6 : Strs w6 (.slice A6 (1 + L.length) c6) (front :: L) := strs_of_seq (B := w5.heap.size) (by simpa [flatS, Nat.add_comm] using hseq6) (by simp; omega)
      have HF6 := Lib.hid (HF5.out.call hb6)
      have C7 := set_any HF6.out.lists (HT.out.later HF6.out.below) nameNew (by decide) _ (front :: L) hstr6 (by simp; omega) (fun t ht => by
        rcases List.mem_cons.1 ht with rfl | ht
        · rw [HFR.out]; cases allow <;> cases inn <;> decide
        · have := HLS.out t ht; omega) (by omega) (by have := blk_lt HF6.out.lists.cells; omega)
      rw [show L3.put nameOld rs = L3.put nameOld rs from rfl, HFR.out, front_new hLl HPA.out allow inn] at C7
      have HC7 := Lib.hid C7
      clear hseq6 hgrow6 hb6 hstr6 HF5 C7 hdst hsrc
      go_wp2_with fail
      refine HC7.out.mono ?_
      rintro e w7 ⟨he, n7, D7, hn7, hl7, hg7⟩
      obtain rfl : e = .returned (.int .i64 0) := he
      have HF7 := Lib.hid (HF6.out.set hl7 hg7 hgm hmb)
      clear hl7 hg7 hn7 HC7 HF6
      go_wp2_with fail
      have HC0 := Lib.hid (And.intro (HF7.out.lists.below ((Below.refl w7.heap.size w7).drew)) (And.intro (HGR.out.below HF7.out.below.drew) (And.intro (blk_drew HF7.out.box) HF7.out.below.drew)))
      refine wp_region_held_drew (S := (fun w' => w'.cell? ⟨g, 4, none⟩ = some (.string contact) ∧ w'.cell? ⟨g, 5, none⟩ = some (.slice GA groups.length gcap) ∧ w'.cell? ⟨g, 6, none⟩ = some (.string sub))) (by kernel_rfl) ?_ (fun hHeld0 => ?_)
      · exact ⟨blk_cell HC0.out.2.2.1 4, blk_cell HC0.out.2.2.1 5, blk_cell HC0.out.2.2.1 6⟩
      refine held_take (v := ?_) 0 rfl rfl (by kernel_rfl) (by kernel_rfl) (by kernel_rfl) (fun _ _ _ h => h) (by rfl) ?_ (by assumption) ?_
      rotate_left
      · intro w hSw; (try dsimp only at hSw); go_simp; (try with_reducible rfl)
      try simp only [Act.put, List.setIfInBounds_toArray, List.set_cons_zero, List.set_cons_succ]
      refine held_take (v := ?_) 1 rfl rfl (by kernel_rfl) (by kernel_rfl) (by kernel_rfl) (fun _ _ _ h => h) (by rfl) ?_ (by assumption) ?_
      rotate_left
      · intro w hSw; (try dsimp only at hSw); go_simp; (try with_reducible rfl)
      try simp only [Act.put, List.setIfInBounds_toArray, List.set_cons_zero, List.set_cons_succ]
      refine held_take (v := ?_) 2 rfl rfl (by kernel_rfl) (by kernel_rfl) (by kernel_rfl) (fun _ _ _ h => h) (by rfl) ?_ (by assumption) ?_
      rotate_left
      · intro w hSw; (try dsimp only at hSw); go_simp; (try with_reducible rfl)
      try simp only [Act.put, List.setIfInBounds_toArray, List.set_cons_zero, List.set_cons_succ]
      refine held_take (v := ?_) 3 rfl rfl (by kernel_rfl) (by kernel_rfl) (by kernel_rfl) (fun _ _ _ h => h) (by rfl) ?_ (by assumption) ?_
      rotate_left
      · intro w hSw; (try dsimp only at hSw); go_simp; (try with_reducible rfl)
      try simp only [Act.put, List.setIfInBounds_toArray, List.set_cons_zero, List.set_cons_succ]
      refine held_take (v := ?_) 4 rfl rfl (by kernel_rfl) (by kernel_rfl) (by kernel_rfl) (fun _ _ _ h => h) (by rfl) ?_ (by assumption) ?_
      rotate_left
      · intro w hSw; (try dsimp only at hSw); go_simp; (try with_reducible rfl)
      try simp only [Act.put, List.setIfInBounds_toArray, List.set_cons_zero, List.set_cons_succ]
      refine held_take (v := ?_) 5 rfl rfl (by kernel_rfl) (by kernel_rfl) (by kernel_rfl) (fun _ _ _ h => h) (by rfl) ?_ (by assumption) ?_
      rotate_left
      · intro w hSw; (try dsimp only at hSw); go_simp; (try with_reducible rfl)
      try simp only [Act.put, List.setIfInBounds_toArray, List.set_cons_zero, List.set_cons_succ]
      refine held_take (v := ?_) 6 rfl rfl (by kernel_rfl) (by kernel_rfl) (by kernel_rfl) (fun _ _ _ h => h) (by rfl) ?_ (by assumption) ?_
      rotate_left
      · intro w hSw; (try dsimp only at hSw); go_simp; (try with_reducible rfl)
      try simp only [Act.put, List.setIfInBounds_toArray, List.set_cons_zero, List.set_cons_succ]
      refine held_take (v := ?_) 7 rfl rfl (by kernel_rfl) (by kernel_rfl) (by kernel_rfl) (fun _ _ _ h => h) (by rfl) ?_ (by assumption) ?_
      rotate_left
      · intro w hSw; (try dsimp only at hSw); go_simp; (try with_reducible rfl)
      try simp only [Act.put, List.setIfInBounds_toArray, List.set_cons_zero, List.set_cons_succ]
      refine held_take (v := ?_) 9 rfl rfl (by kernel_rfl) (by kernel_rfl) (by kernel_rfl) (fun _ _ _ h => h) (by rfl) ?_ (by assumption) ?_
      rotate_left
      · intro w hSw; (try dsimp only at hSw); go_simp; (try with_reducible rfl)
      try simp only [Act.put, List.setIfInBounds_toArray, List.set_cons_zero, List.set_cons_succ]
      refine held_step 8 rfl (by kernel_rfl) (by rfl) (fun K hK => ?_)
      go_simp
      have C1 := allows_any HC0.out.1 nameNew inn contact (.slice GA groups.length gcap) groups sub (by decide) HC0.out.2.1
      rw [front_decides] at C1
      refine C1.mono ?_
      rintro e v1 ⟨rfl, hv1⟩
      have HC1 := Lib.hid (And.intro (HC0.out.1.below hv1) (And.intro (HC0.out.2.1.below hv1) (And.intro (blk_below HC0.out.2.2.1 hv1 (blk_lt HC0.out.2.2.1)) (HC0.out.2.2.2.trans (hv1.mono HC0.out.2.2.2.size)))))
      clear C1 hv1
      try go_wp2_with fail
      refine hK.out _ _ ?_ (fun hHeld1 => ?_)
      · exact ⟨blk_cell HC1.out.2.2.1 4, blk_cell HC1.out.2.2.1 5, blk_cell HC1.out.2.2.1 6⟩
      clear hK K hHeld0
      try simp only [Act.put, List.setIfInBounds_toArray, List.set_cons_zero, List.set_cons_succ]
      refine held_take (v := ?_) 10 rfl rfl (by kernel_rfl) (by kernel_rfl) (by kernel_rfl) (fun _ _ _ h => h) (by rfl) ?_ (by assumption) ?_
      rotate_left
      · intro w hSw; (try dsimp only at hSw); go_simp; (try with_reducible rfl)
      try simp only [Act.put, List.setIfInBounds_toArray, List.set_cons_zero, List.set_cons_succ]
      refine held_take (v := ?_) 11 rfl rfl (by kernel_rfl) (by kernel_rfl) (by kernel_rfl) (fun _ _ _ h => h) (by rfl) ?_ (by assumption) ?_
      rotate_left
      · intro w hSw; (try dsimp only at hSw); go_simp; (try with_reducible rfl)
      try simp only [Act.put, List.setIfInBounds_toArray, List.set_cons_zero, List.set_cons_succ]
      refine held_take (v := ?_) 12 rfl rfl (by kernel_rfl) (by kernel_rfl) (by kernel_rfl) (fun _ _ _ h => h) (by rfl) ?_ (by assumption) ?_
      rotate_left
      · intro w hSw; (try dsimp only at hSw); go_simp; (try with_reducible rfl)
      try simp only [Act.put, List.setIfInBounds_toArray, List.set_cons_zero, List.set_cons_succ]
      refine held_take (v := ?_) 13 rfl rfl (by kernel_rfl) (by kernel_rfl) (by kernel_rfl) (fun _ _ _ h => h) (by rfl) ?_ (by assumption) ?_
      rotate_left
      · intro w hSw; (try dsimp only at hSw); go_simp; (try with_reducible rfl)
      try simp only [Act.put, List.setIfInBounds_toArray, List.set_cons_zero, List.set_cons_succ]
      refine held_take (v := ?_) 14 rfl rfl (by kernel_rfl) (by kernel_rfl) (by kernel_rfl) (fun _ _ _ h => h) (by rfl) ?_ (by assumption) ?_
      rotate_left
      · intro w hSw; (try dsimp only at hSw); go_simp; (try with_reducible rfl)
      try simp only [Act.put, List.setIfInBounds_toArray, List.set_cons_zero, List.set_cons_succ]
      refine held_take (v := ?_) 15 rfl rfl (by kernel_rfl) (by kernel_rfl) (by kernel_rfl) (fun _ _ _ h => h) (by rfl) ?_ (by assumption) ?_
      rotate_left
      · intro w hSw; (try dsimp only at hSw); go_simp; (try with_reducible rfl)
      try simp only [Act.put, List.setIfInBounds_toArray, List.set_cons_zero, List.set_cons_succ]
      refine held_take (v := ?_) 16 rfl rfl (by kernel_rfl) (by kernel_rfl) (by kernel_rfl) (fun _ _ _ h => h) (by rfl) ?_ (by assumption) ?_
      rotate_left
      · intro w hSw; (try dsimp only at hSw); go_simp; (try with_reducible rfl)
      try simp only [Act.put, List.setIfInBounds_toArray, List.set_cons_zero, List.set_cons_succ]
      refine held_take (v := ?_) 17 rfl rfl (by kernel_rfl) (by kernel_rfl) (by kernel_rfl) (fun _ _ _ h => h) (by rfl) ?_ (by assumption) ?_
      rotate_left
      · intro w hSw; (try dsimp only at hSw); go_simp; (try with_reducible rfl)
      try simp only [Act.put, List.setIfInBounds_toArray, List.set_cons_zero, List.set_cons_succ]
      refine held_take (v := ?_) 18 rfl rfl (by kernel_rfl) (by kernel_rfl) (by kernel_rfl) (fun _ _ _ h => h) (by rfl) ?_ (by assumption) ?_
      rotate_left
      · intro w hSw; (try dsimp only at hSw); go_simp; (try with_reducible rfl)
      try simp only [Act.put, List.setIfInBounds_toArray, List.set_cons_zero, List.set_cons_succ]
      refine held_take (v := ?_) 19 rfl rfl (by kernel_rfl) (by kernel_rfl) (by kernel_rfl) (fun _ _ _ h => h) (by rfl) ?_ (by assumption) ?_
      rotate_left
      · intro w hSw; (try dsimp only at hSw); go_simp; (try with_reducible rfl)
      try simp only [Act.put, List.setIfInBounds_toArray, List.set_cons_zero, List.set_cons_succ]
      refine held_take (v := ?_) 20 rfl rfl (by kernel_rfl) (by kernel_rfl) (by kernel_rfl) (fun _ _ _ h => h) (by rfl) ?_ (by assumption) ?_
      rotate_left
      · intro w hSw; (try dsimp only at hSw); go_simp; (try with_reducible rfl)
      try simp only [Act.put, List.setIfInBounds_toArray, List.set_cons_zero, List.set_cons_succ]
      refine held_take (v := ?_) 22 rfl rfl (by kernel_rfl) (by kernel_rfl) (by kernel_rfl) (fun _ _ _ h => h) (by rfl) ?_ (by assumption) ?_
      rotate_left
      · intro w hSw; (try dsimp only at hSw); go_simp; (try with_reducible rfl)
      try simp only [Act.put, List.setIfInBounds_toArray, List.set_cons_zero, List.set_cons_succ]
      refine held_take (v := ?_) 23 rfl rfl (by kernel_rfl) (by kernel_rfl) (by kernel_rfl) (fun _ _ _ h => h) (by rfl) ?_ (by assumption) ?_
      rotate_left
      · intro w hSw; (try dsimp only at hSw); go_simp; (try with_reducible rfl)
      try simp only [Act.put, List.setIfInBounds_toArray, List.set_cons_zero, List.set_cons_succ]
      refine held_take (v := ?_) 24 rfl rfl (by kernel_rfl) (by kernel_rfl) (by kernel_rfl) (fun _ _ _ h => h) (by rfl) ?_ (by assumption) ?_
      rotate_left
      · intro w hSw; (try dsimp only at hSw); go_simp; (try with_reducible rfl)
      try simp only [Act.put, List.setIfInBounds_toArray, List.set_cons_zero, List.set_cons_succ]
      refine held_take (v := ?_) 25 rfl rfl (by kernel_rfl) (by kernel_rfl) (by kernel_rfl) (fun _ _ _ h => h) (by rfl) ?_ (by assumption) ?_
      rotate_left
      · intro w hSw; (try dsimp only at hSw); go_simp; (try with_reducible rfl)
      try simp only [Act.put, List.setIfInBounds_toArray, List.set_cons_zero, List.set_cons_succ]
      refine held_take (v := ?_) 26 rfl rfl (by kernel_rfl) (by kernel_rfl) (by kernel_rfl) (fun _ _ _ h => h) (by rfl) ?_ (by assumption) ?_
      rotate_left
      · intro w hSw; (try dsimp only at hSw); go_simp; (try with_reducible rfl)
      try simp only [Act.put, List.setIfInBounds_toArray, List.set_cons_zero, List.set_cons_succ]
      refine held_take (v := ?_) 27 rfl rfl (by kernel_rfl) (by kernel_rfl) (by kernel_rfl) (fun _ _ _ h => h) (by rfl) ?_ (by assumption) ?_
      rotate_left
      · intro w hSw; (try dsimp only at hSw); go_simp; (try with_reducible rfl)
      try simp only [Act.put, List.setIfInBounds_toArray, List.set_cons_zero, List.set_cons_succ]
      refine held_take (v := ?_) 28 rfl rfl (by kernel_rfl) (by kernel_rfl) (by kernel_rfl) (fun _ _ _ h => h) (by rfl) ?_ (by assumption) ?_
      rotate_left
      · intro w hSw; (try dsimp only at hSw); go_simp; (try with_reducible rfl)
      try simp only [Act.put, List.setIfInBounds_toArray, List.set_cons_zero, List.set_cons_succ]
      refine held_take (v := ?_) 29 rfl rfl (by kernel_rfl) (by kernel_rfl) (by kernel_rfl) (fun _ _ _ h => h) (by rfl) ?_ (by assumption) ?_
      rotate_left
      · intro w hSw; (try dsimp only at hSw); go_simp; (try with_reducible rfl)
      try simp only [Act.put, List.setIfInBounds_toArray, List.set_cons_zero, List.set_cons_succ]
      refine held_take (v := ?_) 30 rfl rfl (by kernel_rfl) (by kernel_rfl) (by kernel_rfl) (fun _ _ _ h => h) (by rfl) ?_ (by assumption) ?_
      rotate_left
      · intro w hSw; (try dsimp only at hSw); go_simp; (try with_reducible rfl)
      try simp only [Act.put, List.setIfInBounds_toArray, List.set_cons_zero, List.set_cons_succ]
      refine held_step 21 rfl (by kernel_rfl) (by rfl) (fun K hK => ?_)
      go_simp
      have C2 := allows_any HC1.out.1 nameNew (!inn) contact (.slice GA groups.length gcap) groups sub (by decide) HC1.out.2.1
      rw [front_leaves] at C2
      refine C2.mono ?_
      rintro e v2 ⟨rfl, hv2⟩
      have HC2 := Lib.hid (And.intro (HC1.out.1.below hv2) (And.intro (HC1.out.2.1.below hv2) (And.intro (blk_below HC1.out.2.2.1 hv2 (blk_lt HC1.out.2.2.1)) (HC1.out.2.2.2.trans (hv2.mono HC1.out.2.2.2.size)))))
      clear C2 hv2
      try go_wp2_with fail
      refine hK.out _ _ ?_ (fun hHeld2 => ?_)
      · exact ⟨blk_cell HC2.out.2.2.1 4, blk_cell HC2.out.2.2.1 5, blk_cell HC2.out.2.2.1 6⟩
      clear hK K hHeld1
      try simp only [Act.put, List.setIfInBounds_toArray, List.set_cons_zero, List.set_cons_succ]
      refine held_step 31 rfl (by kernel_rfl) (by rfl) (fun K hK => ?_)
      go_simp
      have C3 := allows_any HC2.out.1 nameOld (!inn) contact (.slice GA groups.length gcap) groups sub (by decide) HC2.out.2.1
      rw [front_was] at C3
      refine C3.mono ?_
      rintro e v3 ⟨rfl, hv3⟩
      have HC3 := Lib.hid (And.intro (HC2.out.1.below hv3) (And.intro (HC2.out.2.1.below hv3) (And.intro (blk_below HC2.out.2.2.1 hv3 (blk_lt HC2.out.2.2.1)) (HC2.out.2.2.2.trans (hv3.mono HC2.out.2.2.2.size)))))
      clear C3 hv3
      try go_wp2_with fail
      refine hK.out _ _ ?_ (fun hHeld3 => ?_)
      · exact ⟨blk_cell HC3.out.2.2.1 4, blk_cell HC3.out.2.2.1 5, blk_cell HC3.out.2.2.1 6⟩
      clear hK K hHeld2
      try simp only [Act.put, List.setIfInBounds_toArray, List.set_cons_zero, List.set_cons_succ]
      refine held_take (v := ?_) 32 rfl rfl (by kernel_rfl) (by kernel_rfl) (by kernel_rfl) (fun _ _ _ h => h) (by rfl) ?_ (by assumption) ?_
      rotate_left
      · intro w hSw; (try dsimp only at hSw); go_simp; (try with_reducible rfl)
      try simp only [Act.put, List.setIfInBounds_toArray, List.set_cons_zero, List.set_cons_succ]
      refine held_take (v := ?_) 33 rfl rfl (by kernel_rfl) (by kernel_rfl) (by kernel_rfl) (fun _ _ _ h => h) (by rfl) ?_ (by assumption) ?_
      rotate_left
      · intro w hSw; (try dsimp only at hSw); go_simp; (try with_reducible rfl)
      try simp only [Act.put, List.setIfInBounds_toArray, List.set_cons_zero, List.set_cons_succ]
      refine held_take (v := ?_) 34 rfl rfl (by kernel_rfl) (by kernel_rfl) (by kernel_rfl) (fun _ _ _ h => h) (by rfl) ?_ (by assumption) ?_
      rotate_left
      · intro w hSw; (try dsimp only at hSw); go_simp; (try with_reducible rfl)
      try simp only [Act.put, List.setIfInBounds_toArray, List.set_cons_zero, List.set_cons_succ]
      refine wpAnyH_done (by kernel_rfl) ?_ _
      clear hHeld3
      go_wp2_with fail
      go_ret
      exact ⟨rfl, HC3.out.2.2.2⟩

end Go.Proofs.YthbjcihdlhkboaaDoor
