/- The program's lists: Drop, Default, a list's texts, the names rising. -/
import Derived.Test.YthbjcihdlhkboaaGreatDoorPx1
import Derived.Test.YthbjcihdlhkboaaGreatDoorPx2
import Derived.Test.YthbjcihdlhkboaaGreatDoorRu1
import Derived.Test.YthbjcihdlhkboaaGreatDoorStep
import Derived.Deep.RegionHeld3
namespace Go.Proofs.YthbjcihdlhkboaaGreatDoor
set_option linter.unusedSimpArgs false
set_option linter.unusedVariables false
open Go.RowKit Go.Maps Go.Shelf Go.Lib

section
variable {w w' : World} {B lb mb n : Nat} {D : DataW Value} {L : LS}
theorem LAt.lt (h : LAt w B lb mb n D L) : lb < w.heap.size ∧ mb < w.heap.size := by
  obtain ⟨es, clock, hb, _⟩ := h.own
  exact ⟨blk_lt h.cells, blk_lt hb⟩
theorem LAt.ne (h : LAt w B lb mb n D L) : lb ≠ mb := by
  intro e
  obtain ⟨es, clock, hb, _⟩ := h.own
  rw [← e, h.cells] at hb
  cases hb
theorem LAt.keep (h : LAt w B lb mb n D L) (h1 : w'.heap[lb]? = w.heap[lb]?) (h2 : w'.heap[mb]? = w.heap[mb]?) (h3 : ∀ k cur, w.heap[k]? = some (.cells cur 138 (0, 0)) → B ≤ k → w'.heap[k]? = w.heap[k]?) : LAt w' B lb mb n D L where
  cells := h1.trans h.cells
  own := by
    obtain ⟨es, clock, hb, rest⟩ := h.own
    exact ⟨es, clock, h2.trans hb, rest⟩
  ok := h.ok
  size := h.size
  lists := fun s => by
    rcases h.lists s with hn | ⟨v, rs, a, b, c⟩
    · exact .inl hn
    · exact .inr ⟨v, rs, a, b, c.turn h3⟩
  lo := h.lo
  small := h.small
  chose := h.chose
  apart := h.apart
theorem LAt.upd (h : LAt w B lb mb n D L) {C : Nat} {ks : Nat → Prop} (hu : Upd C ks w w') (hC : w.heap.size ≤ C) (hk : ∀ k, ks k → k ≠ lb ∧ k ≠ mb ∧ ∀ cur, w.heap[k]? ≠ some (.cells cur 138 (0, 0))) : LAt w' B lb mb n D L :=
  h.keep (hu.block _ (by have := h.lt; omega) (fun e => (hk _ e).1 rfl)) (hu.block _ (by have := h.lt; omega) (fun e => (hk _ e).2.1 rfl)) (fun k cur hc _ => hu.block k (by have := blk_lt hc; omega) (fun e => (hk k e).2.2 cur hc))
/-- A block of cells of another kind is none of the lists'. -/
theorem LAt.cells_ne (h : LAt w B lb mb n D L) {k : Nat} {cs : Array Value} {T : TypeId} {fz : Nat × Nat} (hk : w.heap[k]? = some (.cells cs T fz)) (hT : T ≠ 95) : k ≠ lb ∧ k ≠ mb := by
  refine ⟨fun e => ?_, fun e => ?_⟩
  · subst e
    rw [h.cells] at hk
    simp at hk
    exact hT hk.2.1.symm
  · obtain ⟨es, clock, hb, _⟩ := h.own
    subst e
    rw [hb] at hk
    cases hk

/-- One is chosen. -/
theorem LAt.choose (h : LAt w B lb mb n D L) (x : ByteArray) (hx : x.size ≤ maxLen) : LAt (w.setCell ⟨lb, 2, none⟩ (.string x)) B lb mb n D { L with chosen := x } where
  cells := blk_set_same h.cells 2 _
  own := by
    obtain ⟨es, clock, hb, rest⟩ := h.own
    exact ⟨es, clock, (Below.heap_setCell w ⟨lb, 2, none⟩ _ mb (fun e => h.ne e.symm)).trans hb, rest⟩
  ok := h.ok
  size := h.size
  lists := fun s => by
    rcases h.lists s with hn | ⟨v, rs, a, b, c⟩
    · exact .inl hn
    · exact .inr ⟨v, rs, a, b, c.set_ty h.cells (by decide) 2 _⟩
  lo := h.lo
  small := h.small
  chose := hx
  apart := h.apart
theorem LS.del_length {L : LS} (h : (L.items.map (·.1)).Nodup) (s : ByteArray) : (L.del s).items.length + (if (L.get s).isSome then 1 else 0) = L.items.length := by
  rw [LS.get_isSome]
  exact filter_len h s
theorem LAt.drop (h : LAt w B lb mb n D L) {s : ByteArray} (hown : w'.ownsMap Tryz.prog 9 tokR mb n (D.del (keyL s))) (hturn : w.mapTurned w' mb) : LAt w' B lb mb n (D.del (keyL s)) (L.del s) := by
  have hg := hturn.grown
  exact {
    cells := (hg.block lb (blk_lt h.cells) (by simpa using h.ne)).trans h.cells
    own := hown
    ok := h.ok.del s
    size := by
      have e1 := LS.del_length h.apart s
      have e2 := size_del (k := keyL s) (h.own.tidy (string_keyed Tryz.underlying9))
      rw [h.ok.2 s, h.isSome, h.size] at e2
      cases hb : (L.get s).isSome <;> rw [hb] at e1 e2 <;> simp at e1 e2 <;> omega
    lists := fun t => by
      by_cases e : t = s
      · subst e
        exact .inl ⟨mget_del_same t, LS.get_del_same L t⟩
      · rw [mget_del_other e, LS.get_del_other L e]
        rcases h.lists t with hn | ⟨u, qs, a, b, c⟩
        · exact .inl hn
        · exact .inr ⟨u, qs, a, b, c.grown hg (.inr (seq_ne_map (m := 0) c h.own))⟩
    lo := h.lo
    small := fun p hp => h.small p (List.mem_filter.1 hp).1
    chose := h.chose
    apart := LS.nodup_del h.apart s }
theorem LAt.c2 (h : LAt w B lb mb n D L) : w.cell? ⟨lb, 2, none⟩ = some (.string L.chosen) ∧ w.frozen? ⟨lb, 2, none⟩ = false ∧ w.cell? ⟨lb, 3, none⟩ = some (.map (some mb)) := ⟨blk_cell h.cells 2, blk_frozen h.cells 2, blk_cell h.cells 3⟩
end

set_option maxRecDepth 100000 in
set_option maxHeartbeats 4000000 in
theorem deflt_any {w : World} {B lb mb n : Nat} {D : DataW Value} {L : LS} (h : LAt w B lb mb n D L) (x : ByteArray) (hx0 : x.size ≤ maxLen) :
    Calls Tryz.prog 47 #[.pointer (some ⟨lb, 0, none⟩), .string x] w fun e w' => e = .returned (.int .i64 (L.deflt x).1) ∧ LAt w' B lb mb n D (L.deflt x).2 ∧ Upd w.heap.size (fun k => k = lb) w w' := by
  have C := has_any h x hx0
  have H := Lib.hid (And.intro h hx0)
  have hlt := h.lt.1
  clear h hx0
  obtain ⟨i, hi⟩ : ∃ i, (L.get x).isSome = i := ⟨_, rfl⟩
  unfold LS.deflt
  rw [hi] at C ⊢
  have HC := Lib.hid C
  clear C hi
  by_cases hx : x = ⟨#[]⟩
  · subst hx
    rw [if_neg (by simp)]
    obtain ⟨y, z, _⟩ := H.out.1.c2
    go_enter Tryz.func47, Tryz.ntmps47
    go_wp2_with fail
    go_ret
    exact ⟨rfl, H.out.1.choose _ H.out.2, Upd.setCell (ks := fun k => k = lb) (Upd.refl _ _ _) (a := (⟨lb, 2, none⟩ : Addr)) (.inl rfl) _⟩
  · obtain ⟨n1, n2⟩ := ne_empty hx
    have HX := Lib.hid hx
    cases i with
    | false =>
      rw [if_pos ⟨hx, rfl⟩]
      clear hx
      go_enter Tryz.func47, Tryz.ntmps47
      go_wp2_with fail
      refine HC.out.mono ?_
      rintro e w1 ⟨rfl, hb1⟩
      have HB := Lib.hid hb1
      clear hb1
      go_wp2_with fail
      go_ret
      exact ⟨rfl, H.out.1.below HB.out, Upd.of_below HB.out (Nat.le_refl _)⟩
    | true =>
      rw [if_neg (by simp)]
      clear hx
      go_enter Tryz.func47, Tryz.ntmps47
      go_wp2_with fail
      refine HC.out.mono ?_
      rintro e w1 ⟨rfl, hb1⟩
      obtain ⟨y, z, _⟩ := (H.out.1.below hb1).c2
      have HB := Lib.hid hb1
      clear hb1
      go_wp2_with fail
      go_ret
      exact ⟨rfl, (H.out.1.below HB.out).choose _ H.out.2, Upd.setCell (ks := fun k => k = lb) (Upd.of_below HB.out (Nat.le_refl _)) (a := (⟨lb, 2, none⟩ : Addr)) (.inl rfl) _⟩

set_option maxRecDepth 100000 in
set_option maxHeartbeats 4000000 in
theorem drop17_any {w : World} {B lb mb n : Nat} {D : DataW Value} {L : LS} (h : LAt w B lb mb n D L) (x : ByteArray) (hx0 : x.size ≤ maxLen) :
    Calls Tryz.prog 45 #[.pointer (some ⟨lb, 0, none⟩), .string x] w fun e w' => e = .returned (.int .i64 (L.drop x).1) ∧ (∃ D', LAt w' B lb mb n D' (L.drop x).2) ∧ Upd w.heap.size (fun k => k = mb) w w' := by
  have C := has_any h x hx0
  have H := Lib.hid (And.intro h hx0)
  have hlt := h.lt.1
  clear h hx0
  obtain ⟨i, hi⟩ : ∃ i, (L.get x).isSome = i := ⟨_, rfl⟩
  unfold LS.drop
  rw [hi] at C ⊢
  have HC := Lib.hid C
  clear C hi
  cases i with
  | false =>
    rw [if_pos rfl]
    go_enter Tryz.func45, Tryz.ntmps45
    go_wp2_with fail
    refine HC.out.mono ?_
    rintro e w1 ⟨rfl, hb1⟩
    have HB := Lib.hid hb1
    clear hb1
    go_wp2_with fail
    go_ret
    exact ⟨rfl, ⟨D, H.out.1.below HB.out⟩, Upd.of_below HB.out (Nat.le_refl _)⟩
  | true =>
    rw [if_neg (by simp)]
    cases hc : (L.chosen.toList == x.toList) with
    | true =>
      rw [if_pos (Srt.eqS.1 hc)]
      go_enter Tryz.func45, Tryz.ntmps45
      go_wp2_with fail
      refine HC.out.mono ?_
      rintro e w1 ⟨rfl, hb1⟩
      obtain ⟨y, _, _⟩ := (H.out.1.below hb1).c2
      have HB := Lib.hid hb1
      clear hb1
      go_wp2_with fail
      go_ret
      exact ⟨rfl, ⟨D, H.out.1.below HB.out⟩, Upd.of_below HB.out (Nat.le_refl _)⟩
    | false =>
      rw [if_neg (fun e => by rw [Srt.eqS.2 e] at hc; cases hc)]
      go_enter Tryz.func45, Tryz.ntmps45
      go_wp2_with fail
      refine HC.out.mono ?_
      rintro e w1 ⟨rfl, hb1⟩
      obtain ⟨y, _, y3⟩ := (H.out.1.below hb1).c2
      have HL := Lib.hid (H.out.1.below hb1)
      have HB := Lib.hid hb1
      clear hb1
      go_wp2_with (at_delete; refine wpList_delete_own _ rfl _ _ 93 9 rfl 107 (string_keyed Tryz.underlying9) Tryz.underlying93 tokR mb n D rfl HL.out.own (.string x) (keyL x) rfl (WideMaps.keyOf_string_mk Tryz.underlying9 H.out.2) ?_; intro w2 hown hturn)
      have hl2 := HL.out.drop hown hturn
      have hu2 : Upd w.heap.size (fun k => k = mb) w w2 := Upd.trans (Upd.of_below HB.out (Nat.le_refl _)) (Upd.of_grown (B := w1.heap.size) hturn.grown rfl (Nat.le_refl _)) HB.out.size
      have HF := Lib.hid (And.intro hl2 hu2)
      clear hown hturn hl2 hu2
      go_wp2_with fail
      go_ret
      exact ⟨rfl, ⟨_, HF.out.1⟩, HF.out.2⟩

theorem data_map_nodup {l : List (ByteArray × List Rule)} (h : (l.map (·.1)).Nodup) : (l.map fun p => p.1.data.toList).Nodup := by
  have : l.map (fun p => p.1.data.toList) = (l.map (·.1)).map (fun s : ByteArray => s.data.toList) := by rw [List.map_map]; rfl
  rw [this]
  exact List.Pairwise.map _ (fun a b hab e => hab (Srt.data_inj e)) h
theorem mk_data (s : ByteArray) : (⟨s.data.toList.toArray⟩ : ByteArray) = s := by cases s; rfl
theorem LAt.keys {w : World} {B lb mb n : Nat} {D : DataW Value} {L : LS} (h : LAt w B lb mb n D L) : (L.items.map fun p => p.1.data.toList).Perm (strKeys D) := by
  refine Collected.perm (left := fun _ => false) ⟨data_map_nodup h.apart, fun x => ?_⟩ h.own (string_keyed Tryz.underlying9) Tryz.underlying9 (fun _ => rfl)
  have e1 := h.ok.2 ⟨x.toArray⟩
  rw [h.isSome] at e1
  simp only [and_true]
  rw [show (Lit.string x) = keyL ⟨x.toArray⟩ from rfl, e1, LS.mem_items]
  constructor
  · intro hx
    obtain ⟨p, hp, rfl⟩ := List.mem_map.1 hx
    exact List.mem_map.2 ⟨p, hp, (mk_data _).symm⟩
  · intro hx
    obtain ⟨p, hp, hpx⟩ := List.mem_map.1 hx
    exact List.mem_map.2 ⟨p, hp, by rw [hpx]⟩

theorem LS.keys_length (L : LS) : L.keys.length = L.items.length := by unfold LS.keys; simp
theorem LS.key_mem {L : LS} {k : List UInt8} (h : k ∈ L.keys) : (L.get ⟨k.toArray⟩).isSome = true := by
  unfold LS.keys at h
  rw [List.mem_mergeSort] at h
  obtain ⟨p, hp, rfl⟩ := List.mem_map.1 h
  rw [mk_data, LS.mem_items]
  exact List.mem_map.2 ⟨p, hp, rfl⟩

theorem pkeysCall (mb : Nat) (W : World) : Calls Tryz.prog 53 #[.map (some mb)] W fun e w' => e = .returned (.func (.func 108) #[] #[.pointer (some ⟨W.heap.size, 0, none⟩)]) ∧ w' = W.alloc (.cells #[.map (some mb)] 93) :=
  callsIn_wide.1 (Tryz.maps_Keys_53 (some mb) W)

/-- The names rising, in new memory: whatever came up behind the keys' call. -/
theorem psorted_call {w : World} {B lb mb n : Nat} {D : DataW Value} {L : LS} (h : LAt w B lb mb n D L) (hl : L.items.length ≤ 1000000) (kb : Nat) (hk : w.heap[kb]? = some (.cells #[.map (some mb)] 93)) :
    Calls Tryz.prog 52 #[.func (.func 108) #[] #[.pointer (some ⟨kb, 0, none⟩)]] w fun e w' => ∃ A c, e = .returned (.slice A L.keys.length c) ∧
      Seq w' w.heap.size 9 1 (.slice A L.keys.length c) L.keys.length (L.keys.map fun k => .string ⟨k.toArray⟩) ∧ Below w.heap.size w w' := by
  have hs := h.size
  have hseq : SeqGives Fence.wide 2 Tryz.prog 108 #[.pointer (some ⟨kb, 0, none⟩)] encStr (fun ss => ss.Perm (strKeys D)) (Maps.size D) w :=
    AnyZ.keys_gives (ρ := Tryz.keys53_ren) { Tryz.keys53 with } Fence.wide _ trivial rfl (by omega) kb mb n D w (blk_lt hk) (blk_cell hk 0) h.own
  have C := callsIn_wide.1 (AnyZ.sorted_in Tryz.sorted52 Fence.wide 5 trivial trivial trivial trivial rfl (by omega) (Tryz.sorts52 _) (enters_of Tryz.func107 (by kernel_rfl) rfl) 108 #[.pointer (some ⟨kb, 0, none⟩)] trivial (enters_of Tryz.func108 (by kernel_rfl) rfl) _ (Maps.size D) (by unfold maxLen; omega) (by omega) w hseq)
  refine C.mono ?_
  rintro e w' ⟨v, ss, rfl, hS, hrow, _, hb⟩
  have hk2 : ss.mergeSort (fun x y => decide (x ≤ y)) = L.keys := by
    unfold LS.keys
    have hle : ∀ a b c : List UInt8, decide (a ≤ b) = true → decide (b ≤ c) = true → decide (a ≤ c) = true := by
      intro a b c h1 h2; simp only [decide_eq_true_eq] at *; exact List.le_trans h1 h2
    have htot : ∀ a b : List UInt8, (decide (a ≤ b) || decide (b ≤ a)) = true := by
      intro a b; simp only [Bool.or_eq_true, decide_eq_true_eq]; exact List.le_total a b
    refine List.Perm.eq_of_pairwise (le := fun a b => decide (a ≤ b) = true) (fun a b _ _ h1 h2 => ?_) (List.pairwise_mergeSort hle htot _) (List.pairwise_mergeSort hle htot _) (((List.mergeSort_perm _ _).trans (hS.trans h.keys.symm)).trans (List.mergeSort_perm _ _).symm)
    simp only [decide_eq_true_eq] at h1 h2; exact List.le_antisymm h1 h2
  rw [hk2] at hrow
  have hlen : ss.length = L.keys.length := by rw [← hk2]; simp
  rw [hlen] at hrow
  rcases hrow.2 with ⟨rfl, h0⟩ | ⟨g, cap, cur, rfl, h1, hc, r1, r2, r3, r4⟩
  · have e0 : L.keys = [] := List.eq_nil_of_length_eq_zero h0
    rw [e0]
    exact ⟨none, 0, rfl, Seq.nil _ _ _ _, hb⟩
  · exact ⟨_, cap, rfl, ⟨by simp, .inr ⟨g, 0, cap, cur, rfl, h1, hc, r1, r2, by omega, by simpa using r4⟩⟩, hb⟩

/-- What every rule of the lists is. -/
def RightL (L : LS) : Prop := ∀ s rs, L.get s = some rs → rs.length ≤ 1000000 ∧ ∀ q ∈ rs, ∃ t, parseF t = .ok q

set_option maxRecDepth 100000 in
set_option maxHeartbeats 8000000 in
theorem texts17_any {w : World} {B lb mb n : Nat} {D : DataW Value} {L : LS} (h : LAt w B lb mb n D L) (hR : RightL L) (s : ByteArray) (hs : s.size ≤ maxLen) :
    Calls Tryz.prog 54 #[.pointer (some ⟨lb, 0, none⟩), .string s] w fun e w' => ∃ A c, e = .returned (.slice A (((L.get s).getD []).map writeS).length c) ∧ TxtAt w' w.heap.size (.slice A (((L.get s).getD []).map writeS).length c) (((L.get s).getD []).map writeS) ∧ Below w.heap.size w w' := by
  obtain ⟨A0, c0, hv, hseq, hsm⟩ := h.rules s
  have hl := look_eq h.own h.ok Tryz.underlying9 Tryz.underlying93 (ptrZero w) hs
  rw [hv] at hl
  have hok : ((L.get s).getD []).length ≤ 1000000 ∧ ∀ q ∈ (L.get s).getD [], ∃ t, parseF t = .ok q := by
    cases hg : L.get s with
    | none => exact ⟨by simp, by simp⟩
    | some rs => exact hR s rs hg
  obtain ⟨_, _, y3⟩ := h.c2
  obtain ⟨rs, hrs⟩ : ∃ rs, (L.get s).getD [] = rs := ⟨_, rfl⟩
  rw [hrs] at hl hseq hsm hok ⊢
  have HS := Lib.hid hseq
  have HO := Lib.hid (And.intro hok hsm)
  have hlt := h.lt.1
  clear h hR hs hv hseq hsm hok hrs
  have hlen : (rs.map writeS).length = rs.length := by simp
  rw [hlen]
  go_enter Tryz.func54, Tryz.ntmps54
  go_wp2_with fail
  clear hl y3
  go_loopg [5, 15] rs.length (fun g s5 s15 wx => ∃ k : Nat, k ≤ rs.length ∧ g = rs.length - k ∧ s15 = .int .i64 k ∧ Below w.heap.size w wx ∧ Seq wx w.heap.size 9 1 s5 k (flatS ((rs.take k).map writeS)))
  case atStart => exact ⟨0, Nat.zero_le _, rfl, rfl, Below.refl _ _, Seq.nil _ _ _ _⟩
  case round =>
    obtain ⟨k, hk, hgk, rfl, hbx, hsq⟩ := hrel
    obtain ⟨A5, c5, rfl⟩ := hsq.shape
    have HX := Lib.hid hbx
    have HQ := Lib.hid hsq
    have HK := Lib.hid (And.intro hk hgk)
    have hrl := HS.out.below hbx (fun j hj => (HS.out.lt j hj).2)
    clear hbx hsq hk hgk
    by_cases hlt2 : k < rs.length
    · have t1 : (k : Int) < (rs.length : Int) := by omega
      have hw : IntKind.i64.wrap ((k : Int) + 1) = (k : Int) + 1 := IntWalk.i64_in _ (by have := HO.out.1.1; omega)
      obtain ⟨q, hq⟩ : ∃ q, rs[k]? = some q := ⟨_, List.getElem?_eq_getElem hlt2⟩
      obtain ⟨bA, oA, rfl⟩ : ∃ b off, A0 = some ⟨b, off, none⟩ := by
        obtain ⟨g', off', cap', hv, _⟩ := hrl.form (by omega)
        cases hv; exact ⟨_, _, rfl⟩
      obtain ⟨e0, e1, e2, e3, e4⟩ := rule_cells5 hrl hq
      obtain ⟨t, ht⟩ := HO.out.1.2 q (List.mem_of_getElem? hq)
      have hqb := parseF_byle5 ht
      have hqv := HO.out.2 q (List.mem_of_getElem? hq)
      have C := fun W => write_any q (by omega) (by omega) W
      obtain ⟨qa, qi, qo, qby, qv⟩ := q
      simp only [Rule.val] at C e0 e1 e2 e3 e4
      have HC := Lib.hid C
      have HQQ := Lib.hid hq
      obtain ⟨tx, htx⟩ : ∃ tx, writeS ⟨qa, qi, qo, qby, qv⟩ = tx := ⟨_, rfl⟩
      have HTX := Lib.hid htx
      clear C hq ht hqb hqv htx hrl
      go_wp2_with fail
      refine (HC.out _).mono ?_
      rintro e w2 ⟨rfl, hb2⟩
      have hbb := ((HX.out.alloc HX.out.size (.cells #[.bool qa, .bool qi, .bool qo, .string qby, .string qv] 138)).trans (hb2.mono (by have := HX.out.size; simp; omega)))
      have hs2 := (HQ.out.alloc (.cells #[.bool qa, .bool qi, .bool qo, .string qby, .string qv] 138)).below hb2 (fun j hj => Nat.lt_of_lt_of_le (HQ.out.lt j hj).2 (by simp))
      rw [HTX.out]
      have HB2 := Lib.hid hbb
      have HS2 := hs2.alloc (.cells #[.string tx] 9)
      obtain ⟨i0, hi, hz0, hz1, hz2⟩ := info_parts strInfo
      clear hbb hs2 hb2 HC
      go_wp2_with (at_builtin; refine wpList_append_seq _ rfl _ _ 32 rfl w.heap.size 9 i0 (.string ⟨#[]⟩) 1 16 Tryz.underlying32 hi hz0 hz1 hz2 rfl _ k (flatS ((rs.take k).map writeS)) rfl HS2 ⟨w2.heap.size, 0, none⟩ 1 1 [.string tx] rfl rfl ?c1 ?c2 (by decide) (by have := HO.out.1.1; unfold maxLen; omega) (by have := HO.out.1.1; omega) (by have := HB2.out.size; simp; omega) ?_)
      case c1 => intro j u hu; match j, hu with | 0, hu => simpa [go_sem, Addr.add] using hu
      case c2 => intro u hu; simp at hu; subst hu; rfl
      intro v3 w3 hs3 hg3 _
      obtain ⟨P3, q3, rfl⟩ := hs3.shape
      have hb3 : Below w.heap.size w w3 := (HB2.out.alloc HB2.out.size _).grown hg3 (by have := HB2.out.size; simp; omega) (fun j hj => (HS2.lt j hj).1)
      have HF := Lib.hid (And.intro hb3 hs3)
      clear hb3 hs3 hg3 HS2 hi hz0 hz1 hz2
      go_wp2_with fail
      go_roundg (rs.length - (k + 1))
      case measure => have := HK.out.2; omega
      case rel =>
        refine ⟨k + 1, by omega, rfl, by go_num, HF.out.1, ?_⟩
        rw [take_snoc HQQ.out, List.map_append]
        simpa [flatS, HTX.out] using HF.out.2
    · have e : k = rs.length := by have := HK.out.1; omega
      subst e
      have hfin := HQ.out
      rw [List.take_length] at hfin
      have HF := Lib.hid hfin
      have t1 : ¬ (rs.length : Int) < (rs.length : Int) := by omega
      clear hfin hrl
      go_wp2_with fail
      go_ret
      exact ⟨_, _, rfl, by simpa [TxtAt] using HF.out, HX.out⟩

end Go.Proofs.YthbjcihdlhkboaaGreatDoor
