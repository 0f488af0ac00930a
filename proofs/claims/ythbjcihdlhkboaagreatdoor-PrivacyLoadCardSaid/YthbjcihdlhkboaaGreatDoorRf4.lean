/- Runes, encoded and read again; a folded text's letters. -/
import Derived.Test.YthbjcihdlhkboaaGreatDoorRf3
import Derived.Lib.MapLaws
namespace Go.Proofs.YthbjcihdlhkboaaGreatDoor
set_option linter.unusedSimpArgs false
set_option linter.unusedVariables false
open Go.RowKit Go.Maps Go.Shelf Go.Lib

theorem byteZ (x : Int) (h0 : 0 ≤ x) (h1 : x < 256) : (x.toNat.toUInt8).toNat = x.toNat := by
  rw [Nat.toUInt8, UInt8.toNat_ofNat']
  omega

set_option maxRecDepth 100000 in
set_option maxHeartbeats 2000000 in
theorem decode_encode (r : Nat) (t : List UInt8) (hv : r < 55296 ∨ (57344 ≤ r ∧ r ≤ 1114111)) : Lib.decodeL (Lib.encodeRune (r : Int) ++ t) = (r, (Lib.encodeRune (r : Int)).length) := by
  rw [Lib.decodeL_N]
  unfold Lib.encodeRune
  by_cases c1 : r ≤ 127
  · rw [Lib.encodeRuneZ_one (by omega) (by omega)]
    simp only [List.map_cons, List.map_nil, List.cons_append, List.nil_append, List.getD_cons_zero, List.length_cons, List.length_nil]
    rw [byteZ _ (by omega) (by omega)]
    unfold Lib.decodeN
    rw [if_pos (by omega)]
    simp
  by_cases c2 : r ≤ 2047
  · rw [Lib.encodeRuneZ_two (by omega) (by omega)]
    simp only [List.map_cons, List.map_nil, List.cons_append, List.nil_append, List.getD_cons_zero, List.getD_cons_succ, List.length_cons, List.length_nil]
    rw [byteZ _ (by omega) (by omega), byteZ _ (by omega) (by omega)]
    unfold Lib.decodeN
    rw [if_neg (by omega), if_pos (by omega), if_pos (by omega)]
    refine Prod.ext ?_ rfl
    simp only
    omega
  by_cases c3 : r ≤ 65535
  · rw [Lib.encodeRuneZ_three (by omega)]
    simp only [List.map_cons, List.map_nil, List.cons_append, List.nil_append, List.getD_cons_zero, List.getD_cons_succ, List.length_cons, List.length_nil]
    rw [byteZ _ (by omega) (by omega), byteZ _ (by omega) (by omega), byteZ _ (by omega) (by omega)]
    unfold Lib.decodeN
    rw [if_neg (by omega), if_neg (by omega), if_pos (by omega), if_pos (by omega)]
    refine Prod.ext ?_ rfl
    simp only
    omega
  · rw [Lib.encodeRuneZ_four (by omega) (by omega)]
    simp only [List.map_cons, List.map_nil, List.cons_append, List.nil_append, List.getD_cons_zero, List.getD_cons_succ, List.length_cons, List.length_nil]
    rw [byteZ _ (by omega) (by omega), byteZ _ (by omega) (by omega), byteZ _ (by omega) (by omega), byteZ _ (by omega) (by omega)]
    unfold Lib.decodeN
    rw [if_neg (by omega), if_neg (by omega), if_neg (by omega), if_pos (by omega), if_pos (by omega)]
    refine Prod.ext ?_ rfl
    simp only
    omega

/-- What is decoded from valid bytes is a rune. -/
theorem decodeL_scalar (l : List UInt8) (hne : l ≠ []) (hv : ¬ ((Lib.decodeL l).1 = 65533 ∧ (Lib.decodeL l).2 = 1)) : (Lib.decodeL l).1 < 55296 ∨ (57344 ≤ (Lib.decodeL l).1 ∧ (Lib.decodeL l).1 ≤ 1114111) := by
  rw [Lib.decodeL_N] at hv ⊢
  have k0 := (l.getD 0 0).toNat_lt
  have k1 := (l.getD 1 0).toNat_lt
  have k2 := (l.getD 2 0).toNat_lt
  have k3 := (l.getD 3 0).toNat_lt
  rcases Lib.decodeN_shape l.length (l.getD 0 0).toNat (l.getD 1 0).toNat (l.getD 2 0).toNat (l.getD 3 0).toNat with ⟨c, e⟩ | ⟨c1, c2, c3, cv, e⟩ | ⟨c1, c2, c3, c4, cv, cs, e⟩ | ⟨c1, c2, c3, c4, c5, cv, cw, e⟩ | e
  all_goals (rw [e] at hv ⊢; dsimp only at hv ⊢)
  · omega
  · omega
  · omega
  · omega
  · exact absurd ⟨rfl, rfl⟩ hv

theorem fold_scalar (c : Nat) (h : c < 55296 ∨ (57344 ≤ c ∧ c ≤ 1114111)) : ∃ d : Nat, fold (c : Int) = (d : Int) ∧ (d < 55296 ∨ (57344 ≤ d ∧ d ≤ 1114111)) := by
  by_cases h2 : (65 ≤ (c : Int) ∧ (c : Int) ≤ 90) ∨ (192 ≤ (c : Int) ∧ (c : Int) ≤ 222 ∧ ¬ (c : Int) = 215) ∨ (913 ≤ (c : Int) ∧ (c : Int) ≤ 937 ∧ ¬ (c : Int) = 930) ∨ (1040 ≤ (c : Int) ∧ (c : Int) ≤ 1071)
  · exact ⟨c + 32, by rw [fold_yes _ h2]; omega, by omega⟩
  · exact ⟨c, fold_no _ h2, h⟩

/-- Are all the text's runes letters? -/
def letGo : Nat → List UInt8 → Bool
  | 0, _ => true
  | n + 1, l => if l = [] then true else if localR (Lib.decodeL l).1 then letGo n (l.drop (Lib.decodeL l).2) else false
def letD (l : List UInt8) : Bool := letGo l.length l
theorem letGo_nil : ∀ n, letGo n [] = true
  | 0 => rfl
  | _ + 1 => by simp [letGo]
theorem letGo_fuel : ∀ (n m : Nat) (l : List UInt8), l.length ≤ n → l.length ≤ m → letGo n l = letGo m l
  | 0, m, l, hn, _ => by
    have : l = [] := List.eq_nil_of_length_eq_zero (by omega)
    subst this
    rw [letGo_nil, letGo_nil]
  | n + 1, 0, l, _, hm => by
    have : l = [] := List.eq_nil_of_length_eq_zero (by omega)
    subst this
    rw [letGo_nil, letGo_nil]
  | n + 1, m + 1, l, hn, hm => by
    unfold letGo
    by_cases hne : l = []
    · simp [hne]
    · have hw := Lib.decodeL_width l
      have hl : 0 < l.length := List.length_pos_iff.2 hne
      rw [if_neg hne, if_neg hne, letGo_fuel n m (l.drop (Lib.decodeL l).2) (by rw [List.length_drop]; omega) (by rw [List.length_drop]; omega)]
theorem letD_nil : letD [] = true := rfl
theorem letD_step (l : List UInt8) (hne : l ≠ []) : letD l = if localR (Lib.decodeL l).1 then letD (l.drop (Lib.decodeL l).2) else false := by
  have hl : 0 < l.length := List.length_pos_iff.2 hne
  have hw := Lib.decodeL_width l
  obtain ⟨n, hn⟩ : ∃ n, l.length = n + 1 := ⟨l.length - 1, by omega⟩
  unfold letD
  rw [hn]
  show (if l = [] then true else _) = _
  rw [if_neg hne, letGo_fuel n (l.drop (Lib.decodeL l).2).length _ (by rw [List.length_drop]; omega) (Nat.le_refl _)]

theorem allFrom (s : ByteArray) : ∀ (f pos : Nat), s.size - pos ≤ f → decide (Lib.idxFuncFrom (fun x => !localR x) true s f pos < 0) = letD (s.data.toList.drop pos)
  | 0, pos, h => by
    rw [List.drop_eq_nil_of_le (by rw [size_list]; omega)]
    rfl
  | f + 1, pos, h => by
    by_cases hp : pos < s.size
    · have hne : s.data.toList.drop pos ≠ [] := by intro h; have := congrArg List.length h; simp at this; omega
      have hw := Lib.decodeL_width (s.data.toList.drop pos)
      rw [letD_step _ hne, Lib.decodeL_drop, List.drop_drop]
      rw [Lib.decodeL_drop] at hw
      unfold Lib.idxFuncFrom
      rw [if_pos hp]
      cases hl : localR (Utf8.decode s pos).1
      · simp
      · have ih := allFrom s f (pos + (Utf8.decode s pos).2) (by omega)
        simp [ih]
    · rw [List.drop_eq_nil_of_le (by rw [size_list]; omega), Lib.idxFuncFrom_end _ _ _ _ _ hp]
      rfl
theorem allB_let (s : ByteArray) : allB localR s = letD s.data.toList := allFrom s s.size 0 (by omega)

/-- A step through a folded text. -/
theorem fold_step (l : List UInt8) (hne : l ≠ []) (hv : Lib.validD l = true) :
    Lib.validD (l.drop (Lib.decodeL l).2) = true ∧ 0 ≤ fold (Lib.decodeL l).1 ∧ fold (Lib.decodeL l).1 ≤ 1114143 ∧
    Lib.mapD fold l = Lib.encodeRune (fold (Lib.decodeL l).1) ++ Lib.mapD fold (l.drop (Lib.decodeL l).2) ∧
    letD (Lib.mapD fold l) = if localR (fold (Lib.decodeL l).1) then letD (Lib.mapD fold (l.drop (Lib.decodeL l).2)) else false := by
  rw [Lib.validD_step l hne] at hv
  have hbad : ¬ ((Lib.decodeL l).1 = 65533 ∧ (Lib.decodeL l).2 = 1) := by
    intro h
    rw [if_pos h] at hv
    cases hv
  rw [if_neg hbad] at hv
  obtain ⟨d, hd, hs⟩ := fold_scalar _ (decodeL_scalar l hne hbad)
  have hm := Lib.mapD_step fold l hne
  rw [hd, if_pos (by omega)] at hm
  refine ⟨hv, by omega, by omega, by rw [hd]; exact hm, ?_⟩
  have he := Lib.encodeRuneZ_length (d : Int)
  have hle : (Lib.encodeRune (d : Int)).length = (Lib.encodeRuneZ (d : Int)).length := by simp [Lib.encodeRune]
  rw [hm, letD_step _ (by intro h; have := congrArg List.length h; simp only [List.length_append, List.length_nil] at this; omega), decode_encode d _ hs, hd]
  simp

theorem rune_ok (r : Nat) (hv : r < 55296 ∨ (57344 ≤ r ∧ r ≤ 1114111)) : Utf8.valid (r : Int) = true := by
  unfold Utf8.valid
  simp only [Bool.and_eq_true, Bool.or_eq_true, decide_eq_true_eq]
  omega

set_option maxRecDepth 100000 in
/-- The model's own form of a rune is the library's. -/
theorem encode_lib (r : Nat) (hv : r < 55296 ∨ (57344 ≤ r ∧ r ≤ 1114111)) : (Utf8.encode (r : Int)).data.toList = Lib.encodeRune (r : Int) := by
  have hval := rune_ok r hv
  unfold Utf8.encode
  rw [hval]
  simp only [if_true, Int.toNat_natCast]
  unfold Lib.encodeRune
  by_cases c1 : r ≤ 127
  · rw [Lib.encodeRuneZ_one (by omega) (by omega), if_pos (by omega)]
    simp only [List.map_cons, List.map_nil, Int.toNat_natCast]
  by_cases c2 : r ≤ 2047
  · have e1 : (192 + (r : Int) / 64).toNat = 192 + r / 64 := by omega
    have e2 : (128 + (r : Int) % 64).toNat = 128 + r % 64 := by omega
    rw [Lib.encodeRuneZ_two (by omega) (by omega), if_neg (by omega), if_pos (by omega)]
    simp only [List.map_cons, List.map_nil, e1, e2]
  by_cases c3 : r ≤ 65535
  · have e1 : (224 + (r : Int) / 4096).toNat = 224 + r / 4096 := by omega
    have e2 : (128 + (r : Int) / 64 % 64).toNat = 128 + r / 64 % 64 := by omega
    have e3 : (128 + (r : Int) % 64).toNat = 128 + r % 64 := by omega
    rw [Lib.encodeRuneZ_three (by omega), if_neg (by omega), if_neg (by omega), if_pos (by omega)]
    simp only [List.map_cons, List.map_nil, e1, e2, e3]
  · have e1 : (240 + (r : Int) / 262144).toNat = 240 + r / 262144 := by omega
    have e2 : (128 + (r : Int) / 4096 % 64).toNat = 128 + r / 4096 % 64 := by omega
    have e3 : (128 + (r : Int) / 64 % 64).toNat = 128 + r / 64 % 64 := by omega
    have e4 : (128 + (r : Int) % 64).toNat = 128 + r % 64 := by omega
    rw [Lib.encodeRuneZ_four (by omega) (by omega), if_neg (by omega), if_neg (by omega), if_neg (by omega)]
    simp only [List.map_cons, List.map_nil, e1, e2, e3, e4]

theorem fold_small (l : List UInt8) : (Lib.encodeRune (fold (Lib.decodeL l).1)).length ≤ 4 := encodeRune_len _

set_option maxRecDepth 100000 in
set_option maxHeartbeats 8000000 in
theorem reflocal_any (s : ByteArray) (w : World) :
    Calls Tryz.prog 97 #[.string s] w fun e w' => e = .returned (.tuple #[.string (localS s).1, .int .i64 (localS s).2]) ∧ Below w.heap.size w w' := by
  unfold localS
  by_cases h1 : 64 < s.size
  · have e5 : wordE s (validB s) = 5 := by unfold wordE; rw [if_pos h1]
    rw [e5]
    have h2 : (64 : Int) < (s.size : Int) := by omega
    go_enter Tryz.func97, Tryz.ntmps97
    go_wp2_with fail
    go_ret2
    exact ⟨by simp, Below.refl _ _⟩
  have hs : s.size ≤ 4294967281 := by omega
  have CV := Lib.hid (fun W => refvalid_any s hs W)
  clear hs
  have h2 : ¬ (64 : Int) < (s.size : Int) := by omega
  cases h3 : s.toList == []
  rotate_left
  · have e4 : wordE s (validB s) = 4 := by unfold wordE; rw [if_neg h1, h3]; rfl
    rw [e4]
    go_enter Tryz.func97, Tryz.ntmps97
    go_wp2_with fail
    go_ret2
    exact ⟨by simp, Below.refl _ _⟩
  cases hv : validB s
  · have e4 : wordE s false = 4 := by unfold wordE; rw [if_neg h1, h3]; rfl
    rw [hv] at CV
    rw [e4]
    go_enter Tryz.func97, Tryz.ntmps97
    go_wp2_with fail
    refine (CV.out _).mono ?_
    rintro e w1 ⟨rfl, hb1⟩
    go_wp2_with fail
    go_ret2
    exact ⟨by simp, hb1⟩
  · have e0 : wordE s true = 0 := by unfold wordE; rw [if_neg h1, h3]; rfl
    rw [hv] at CV
    rw [e0, if_pos rfl]
    rw [allB_let]
    have hfl : (folded s).data.toList = Lib.mapD fold s.data.toList := rfl
    rw [hfl]
    have HV := Lib.hid hv
    obtain ⟨RR, hRR⟩ : ∃ R : ByteArray × Int, (if letD (Lib.mapD fold s.data.toList) = true then (folded s, 0) else (⟨#[]⟩, 4)) = R := ⟨_, rfl⟩
    rw [hRR]
    have HRR := Lib.hid hRR
    clear hv e0 hfl hRR
    have H64 := Lib.hid h1
    clear h1
    go_enter Tryz.func97, Tryz.ntmps97
    go_wp2_with fail
    refine (CV.out _).mono ?_
    rintro e w1 ⟨rfl, hb1⟩
    have HB1 := Lib.hid hb1
    clear hb1
    go_wp2_with fail
    go_loopg [4] s.size (fun g s4 wx => ∃ (pos : Nat) (acc : List UInt8), g = s.size - pos ∧ s4 = .string ⟨acc.toArray⟩ ∧ wx.heap[w1.heap.size]? = some (.stringIter s pos) ∧ Below w.heap.size w wx ∧ Lib.validD (s.data.toList.drop pos) = true ∧
      acc ++ Lib.mapD fold (s.data.toList.drop pos) = Lib.mapD fold s.data.toList ∧ letD (Lib.mapD fold (s.data.toList.drop pos)) = letD (Lib.mapD fold s.data.toList) ∧ acc.length ≤ 4 * pos)
    case atStart =>
      refine ⟨0, [], by omega, rfl, World.iter_heap w1 s 0, ?_, HV.out, rfl, rfl, by simp⟩
      exact HB1.out.trans (Below.alloc (Below.refl _ _) HB1.out.size _)
    case round =>
      obtain ⟨pos, acc, hg, rfl, hit, hbx, hvd, hacc, hlet, hal⟩ := hrel
      have hsz : w1.heap.size < wr.heap.size := (Array.getElem?_eq_some_iff.1 hit).1
      have HI := Lib.hid hit
      have HX := Lib.hid (And.intro hg (And.intro hbx (And.intro hvd (And.intro hacc (And.intro hlet hal)))))
      clear hg hbx hvd hacc hlet hal hit
      by_cases hp : pos < s.size
      · have hnx : ∀ ty, (Instr.next (.pointer (some ⟨w1.heap.size, 0, none⟩)) true ty).run Tryz.prog wr = _ := fun ty => Lib.run_next_any_at wr w1.heap.size s pos ty HI.out hp
        have hne : s.data.toList.drop pos ≠ [] := by intro h; have := congrArg List.length h; simp at this; omega
        have hst := fold_step _ hne HX.out.2.2.1
        have hwd := Lib.decodeL_width (s.data.toList.drop pos)
        rw [Lib.decodeL_drop] at hst hwd
        have hd1 := decode_le s pos
        have hit2 := Lib.hid (Lib.iterAt_heap wr w1.heap.size s pos (pos + (Utf8.decode s pos).2) HI.out)
        have hbw2 := Lib.hid (Lib.below_iterAt HX.out.2.1 (k := w1.heap.size) (by have := HB1.out.size; omega) s (pos + (Utf8.decode s pos).2))
        have hsz2 := Lib.hid (Lib.iterAt_size wr w1.heap.size s (pos + (Utf8.decode s pos).2))
        obtain ⟨hv2, hf0, hf1, hmap, hlt2⟩ := hst
        have HM := Lib.hid (And.intro hv2 (And.intro hmap hlt2))
        have hsz3 : w1.heap.size < (wr.iterAt w1.heap.size s (pos + (Utf8.decode s pos).2)).heap.size := by rw [hsz2.out]; exact hsz
        have h64 : (s.size : Int) ≤ 64 := h2
        have hacl := Lib.hid (encodeRune_len (fold (Utf8.decode s pos).1))
        clear hv2 hmap hlt2 hsz
        have HF := Lib.hid (fun W => reffold_any ((Utf8.decode s pos).1 : Int) (by omega) (by have := Lib.decodeL_rune (s.data.toList.drop pos); rw [Lib.decodeL_drop] at this; omega) W)
        have HLt := Lib.hid (fun W => refletter_any (fold (Utf8.decode s pos).1) hf0 hf1 W)
        have HE := Lib.hid (show (Utf8.encode (fold (Utf8.decode s pos).1)).data.toList = Lib.encodeRune (fold (Utf8.decode s pos).1) by
          have hbad : ¬ ((Lib.decodeL (s.data.toList.drop pos)).1 = 65533 ∧ (Lib.decodeL (s.data.toList.drop pos)).2 = 1) := by
            intro h
            have hv := HX.out.2.2.1
            rw [Lib.validD_step _ hne, if_pos h] at hv
            cases hv
          have hs := decodeL_scalar _ hne hbad
          rw [Lib.decodeL_drop] at hs
          obtain ⟨d, hd, hs'⟩ := fold_scalar _ hs
          rw [hd]
          exact encode_lib d hs')
        have HP := Lib.hid (And.intro hp (And.intro hwd hd1))
        clear hd1 hne hf0 hf1 hp
        generalize hwi : wr.iterAt w1.heap.size s (pos + (Utf8.decode s pos).2) = wi at *
        clear hwi
        cases hl : localR (fold (Utf8.decode s pos).1)
        · rw [hl] at HLt
          have HR := Lib.hid (show letD (Lib.mapD fold s.data.toList) = false by rw [← HX.out.2.2.2.2.1, HM.out.2.2, hl]; rfl)
          clear hl
          go_wp2_with fail
          refine (HF.out _).mono ?_
          rintro e w2 ⟨rfl, hb2⟩
          go_wp2_with fail
          refine (HLt.out _).mono ?_
          rintro e w3 ⟨rfl, hb3⟩
          go_wp2_with fail
          go_ret2
          rw [← HRR.out, HR.out]
          exact ⟨rfl, (hbw2.out.trans (hb2.mono hbw2.out.size)).trans (hb3.mono (Nat.le_trans hbw2.out.size hb2.size))⟩
        · rw [hl] at HLt
          have HR := Lib.hid (show letD (Lib.mapD fold (s.data.toList.drop (pos + (Utf8.decode s pos).2))) = letD (Lib.mapD fold s.data.toList) by rw [← HX.out.2.2.2.2.1, HM.out.2.2, hl, List.drop_drop]; rfl)
          have hR2 : ∀ acc' : ByteArray, acc'.data.toList = acc ++ (Utf8.encode (fold (Utf8.decode s pos).1)).data.toList → acc'.data.toList ++ Lib.mapD fold (s.data.toList.drop (pos + (Utf8.decode s pos).2)) = Lib.mapD fold s.data.toList ∧ acc'.data.toList.length ≤ 4 * (pos + (Utf8.decode s pos).2) := by
            intro acc' ha
            obtain ⟨_, _, _, h1, _, h3⟩ := HX.out
            rw [ha, HE.out]
            refine ⟨?_, ?_⟩
            · rw [← h1, HM.out.2.1, List.append_assoc, List.drop_drop]
            · rw [List.length_append]
              have := hacl.out
              omega
          have HR2 := Lib.hid hR2
          have hszz : ¬ 9223372036854775807 < (⟨acc.toArray⟩ : ByteArray).size + (Utf8.encode (fold (Utf8.decode s pos).1)).size := by
            have e1 : (⟨acc.toArray⟩ : ByteArray).size = acc.length := rfl
            have e2 := size_list (Utf8.encode (fold (Utf8.decode s pos).1))
            rw [HE.out] at e2
            have := hacl.out
            have := HX.out.2.2.2.2.2
            have := HP.out.1
            omega
          clear hl hR2
          go_wp2_with fail
          refine (HF.out _).mono ?_
          rintro e w2 ⟨rfl, hb2⟩
          go_wp2_with fail
          refine (HLt.out _).mono ?_
          rintro e w3 ⟨rfl, hb3⟩
          go_wp2_with fail
          refine (HF.out _).mono ?_
          rintro e w4 ⟨rfl, hb4⟩
          go_wp2_with fail
          go_roundg (s.size - (pos + (Utf8.decode s pos).2))
          case measure => have := HX.out.1; have := HP.out; omega
          case rel =>
            have hbb := (hbw2.out.trans (hb2.mono hbw2.out.size)).trans (hb3.mono (Nat.le_trans hbw2.out.size hb2.size))
            have hz2 := hsz2.out
            have hz0 := hbw2.out.size
            have hb2s := hb2.size
            have hb3s := hb3.size
            have hb4s := hb4.size
            obtain ⟨q1, q2⟩ := HR2.out (⟨acc.toArray⟩ ++ Utf8.encode (fold (Utf8.decode s pos).1)) (by simp)
            refine ⟨pos + (Utf8.decode s pos).2, (⟨acc.toArray⟩ ++ Utf8.encode (fold (Utf8.decode s pos).1) : ByteArray).data.toList, rfl, ?_, ?_, hbb.trans (hb4.mono (by omega)), ?_, q1, HR.out, q2⟩
            · exact congrArg Value.string (Lib.mk_data _).symm
            · exact (hb4.block _ (by omega)).trans ((hb3.block _ (by omega)).trans ((hb2.block _ (by omega)).trans hit2.out))
            · rw [← List.drop_drop]; exact HM.out.1
      · have hnx : ∀ ty, (Instr.next (.pointer (some ⟨w1.heap.size, 0, none⟩)) true ty).run Tryz.prog wr = _ := fun ty => Lib.run_next_end_at wr w1.heap.size s pos ty HI.out hp
        have he : s.data.toList.drop pos = [] := List.drop_eq_nil_of_le (by rw [size_list]; omega)
        have hR : letD (Lib.mapD fold s.data.toList) = true ∧ folded s = ⟨acc.toArray⟩ := by
          obtain ⟨_, _, _, h1, h2, _⟩ := HX.out
          rw [he] at h1 h2
          refine ⟨by rw [← h2]; rfl, ?_⟩
          unfold folded
          rw [← h1]
          simp [Lib.mapD_nil]
        have HR := Lib.hid hR
        clear hR he
        go_wp2_with fail
        go_ret2
        rw [← HRR.out, HR.out.1, HR.out.2]
        exact ⟨rfl, HX.out.2.1⟩

end Go.Proofs.YthbjcihdlhkboaaGreatDoor
