/- The reference's test of UTF-8: what it reckons is what the library's own test reckons. -/
import Derived.Test.YthbjcihdlhkboaaGreatDoorRf1
import Derived.Lib.ValidLaws
import Derived.Deep.DeepCutAuto
namespace Go.Proofs.YthbjcihdlhkboaaGreatDoor
set_option linter.unusedSimpArgs false
set_option linter.unusedVariables false
open Go.RowKit Go.Maps Go.Shelf Go.Lib

def bt (s : ByteArray) (i : Nat) : Nat := (s.data.toList.getD i 0).toNat
theorem bt_lt (s : ByteArray) (i : Nat) : bt s i < 256 := (s.data.toList.getD i 0).toNat_lt
theorem bt_at (s : ByteArray) (i : Nat) (h : i < s.size) : s[i].toNat = bt s i := by
  unfold bt
  rw [List.getD_eq_getElem?_getD, list_at s i h]
  rfl
theorem drop_getD (l : List UInt8) (k i : Nat) : (l.drop k).getD i 0 = l.getD (k + i) 0 := by
  rw [List.getD_eq_getElem?_getD, List.getD_eq_getElem?_getD, List.getElem?_drop]

/-- The byte at place k + i lies where it must. -/
def okB (s : ByteArray) (k lo hi i : Nat) : Prop := k + i < s.size ∧ (if i = 1 then lo else 128) ≤ bt s (k + i) ∧ bt s (k + i) ≤ (if i = 1 then hi else 191)
def isLead (b n lo hi : Nat) : Prop := (b < 128 ∧ n = 0) ∨ (128 ≤ b ∧ 1 ≤ n ∧ n ≤ 3 ∧ Lib.firstT b % 8 = n + 1 ∧ Lib.accLo (Lib.firstT b / 16) = lo ∧ Lib.accHi (Lib.firstT b / 16) = hi)

theorem lead_le {b n lo hi : Nat} (h : isLead b n lo hi) : n ≤ 3 := by
  rcases h with ⟨_, rfl⟩ | ⟨_, _, h, _⟩
  · omega
  · exact h

theorem vd_ok (s : ByteArray) (k n lo hi : Nat) (hk : k < s.size) (hl : isLead (bt s k) n lo hi) (ho : ∀ i, 1 ≤ i → i < n + 1 → okB s k lo hi i) :
    Lib.validD (s.data.toList.drop (k + 1 + n)) = Lib.validD (s.data.toList.drop k) := by
  have hlen : k < s.data.toList.length := by rw [size_list]; exact hk
  rcases hl with ⟨hb, rfl⟩ | ⟨hb, h1, h3, e1, e2, e3⟩
  · have e : s.data.toList.getD k 0 = s.data.toList[k] := by rw [List.getD_eq_getElem?_getD, List.getElem?_eq_getElem hlen]; rfl
    rw [List.drop_eq_getElem_cons hlen, Lib.validD_cons _ _ (by rw [← e]; exact hb)]
  · have hl := Lib.validD_lead (s.data.toList.drop k) (by intro h; have := congrArg List.length h; simp at this; omega) (by rw [drop_getD]; exact hb)
    rw [hl]
    simp only [drop_getD, Nat.add_zero]
    have hx : ∀ i, (s.data.toList.getD i 0).toNat = bt s i := fun _ => rfl
    simp only [hx, e1, e2, e3, List.length_drop, size_list]
    have o1 := ho 1 (by omega) (by omega)
    unfold okB at ho o1
    unfold Lib.checkN
    have hn : n = 1 ∨ n = 2 ∨ n = 3 := by omega
    rcases hn with rfl | rfl | rfl
    · rw [if_pos rfl, if_neg (by simp at o1; omega)]
      simp [List.drop_drop, Nat.add_assoc]
    · have o2 := ho 2 (by omega) (by omega)
      rw [if_neg (by omega), if_pos rfl, if_neg (by simp at o1 o2; omega)]
      simp [List.drop_drop, Nat.add_assoc]
    · have o2 := ho 2 (by omega) (by omega)
      have o3 := ho 3 (by omega) (by omega)
      rw [if_neg (by omega), if_neg (by omega), if_pos rfl, if_neg (by simp at o1 o2 o3; omega)]
      simp [List.drop_drop, Nat.add_assoc]

theorem vd_bad (s : ByteArray) (k n lo hi j : Nat) (hk : k < s.size) (hl : isLead (bt s k) n lo hi) (h1j : 1 ≤ j) (hj : j ≤ n) (ho : ¬ okB s k lo hi j) :
    Lib.validD (s.data.toList.drop k) = false := by
  have hlen : k < s.data.toList.length := by rw [size_list]; exact hk
  rcases hl with ⟨hb, rfl⟩ | ⟨hb, h1, h3, e1, e2, e3⟩
  · omega
  · have hl := Lib.validD_lead (s.data.toList.drop k) (by intro h; have := congrArg List.length h; simp at this; omega) (by rw [drop_getD]; exact hb)
    rw [hl]
    simp only [drop_getD, Nat.add_zero]
    have hx : ∀ i, (s.data.toList.getD i 0).toNat = bt s i := fun _ => rfl
    simp only [hx, e1, e2, e3, List.length_drop, size_list]
    unfold okB at ho
    unfold Lib.checkN
    have hn : n = 1 ∨ n = 2 ∨ n = 3 := by omega
    have hjj : j = 1 ∨ j = 2 ∨ j = 3 := by omega
    rcases hn with rfl | rfl | rfl
    · rcases hjj with rfl | rfl | rfl
      · rw [if_pos rfl, if_pos (by simp at ho; omega)]
      · omega
      · omega
    · rcases hjj with rfl | rfl | rfl
      · rw [if_neg (by omega), if_pos rfl, if_pos (by simp at ho; omega)]
      · rw [if_neg (by omega), if_pos rfl, if_pos (by simp at ho; omega)]
      · omega
    · rcases hjj with rfl | rfl | rfl
      · rw [if_neg (by omega), if_neg (by omega), if_pos rfl, if_pos (by simp at ho; omega)]
      · rw [if_neg (by omega), if_neg (by omega), if_pos rfl, if_pos (by simp at ho; omega)]
      · rw [if_neg (by omega), if_neg (by omega), if_pos rfl, if_pos (by simp at ho; omega)]

theorem lead_mid (b n lo hi : Nat) (h : (194 ≤ b ∧ b ≤ 223 ∧ n = 1 ∧ lo = 128 ∧ hi = 191) ∨ (((225 ≤ b ∧ b ≤ 236) ∨ (238 ≤ b ∧ b ≤ 239)) ∧ n = 2 ∧ lo = 128 ∧ hi = 191) ∨ (241 ≤ b ∧ b ≤ 243 ∧ n = 3 ∧ lo = 128 ∧ hi = 191)) :
    128 ≤ b ∧ 1 ≤ n ∧ n ≤ 3 ∧ Lib.firstT b % 8 = n + 1 ∧ Lib.accLo (Lib.firstT b / 16) = lo ∧ Lib.accHi (Lib.firstT b / 16) = hi := by
  have key : ∀ c : Fin 256, ((194 ≤ c.val ∧ c.val ≤ 223) → Lib.firstT c.val = 2) ∧ (((225 ≤ c.val ∧ c.val ≤ 236) ∨ (238 ≤ c.val ∧ c.val ≤ 239)) → Lib.firstT c.val = 3) ∧ ((241 ≤ c.val ∧ c.val ≤ 243) → Lib.firstT c.val = 4) := by decide +kernel
  have hb : b < 256 := by omega
  obtain ⟨k1, k2, k3⟩ := key ⟨b, hb⟩
  rcases h with ⟨h1, h2, rfl, rfl, rfl⟩ | ⟨h1, rfl, rfl, rfl⟩ | ⟨h1, h2, rfl, rfl, rfl⟩
  · rw [k1 ⟨h1, h2⟩]; refine ⟨by omega, by omega, by omega, by decide, by decide, by decide⟩
  · rw [k2 h1]; refine ⟨by omega, by omega, by omega, by decide, by decide, by decide⟩
  · rw [k3 ⟨h1, h2⟩]; refine ⟨by omega, by omega, by omega, by decide, by decide, by decide⟩

/-- A byte that may not lead. -/
theorem vd_none (s : ByteArray) (k : Nat) (hk : k < s.size) (hb : (128 ≤ bt s k ∧ bt s k < 194) ∨ 244 < bt s k) : Lib.validD (s.data.toList.drop k) = false := by
  have hl := Lib.validD_lead (s.data.toList.drop k) (by intro h; have := congrArg List.length h; simp at this; omega) (by rw [drop_getD]; show 128 ≤ bt s k; omega)
  rw [hl]
  simp only [drop_getD, Nat.add_zero]
  have hx : ∀ i, (s.data.toList.getD i 0).toNat = bt s i := fun _ => rfl
  simp only [hx]
  have e : Lib.firstT (bt s k) = 241 := by
    have := bt_lt s k
    unfold Lib.firstT
    repeat' split
    all_goals first | rfl | omega
  rw [e]
  unfold Lib.checkN
  rfl


set_option maxRecDepth 100000 in
set_option maxHeartbeats 8000000 in
theorem refvalid_any (s : ByteArray) (hs : s.size ≤ 4294967281) (w : World) :
    Calls Tryz.prog 128 #[.string s] w fun e w' => e = .returned (.bool (validB s)) ∧ Below w.heap.size w w' := by
  have HS := Lib.hid hs
  clear hs
  go_enter Tryz.func128, Tryz.ntmps128
  go_wp2_with fail
  go_loopg [3] s.size (fun g s3 wx => ∃ k : Nat, k ≤ s.size ∧ g = s.size - k ∧ s3 = .int .i64 k ∧ Below w.heap.size w wx ∧ Lib.validD (s.data.toList.drop k) = validB s)
  case atStart => exact ⟨0, by omega, rfl, rfl, Below.refl _ _, rfl⟩
  case round =>
    obtain ⟨k, hk, hgk, rfl, hbx, hvd⟩ := hrel
    have HX := Lib.hid hbx
    have HVD := Lib.hid hvd
    have HK := Lib.hid (And.intro hk hgk)
    clear hbx hvd hgk hk
    by_cases hlt : k < s.size
    · have t1 : decide ((k : Int) < (s.size : Int)) = true := by simpa using hlt
      have t2 : (k : Int) < (s.size : Int) := by omega
      have HB := Lib.hid (bt_at s k hlt)
      go_upto_region 5 with fail
      go_cut [6, 7] (fun s6 s7 wx => s6 = .int .u8 128 ∧ s7 = .int .u8 191 ∧ wr = wx)
      case first =>
        go_wp2_with fail
        go_meet
        exact ⟨rfl, rfl, rfl⟩
      case rest =>
        obtain ⟨rfl, rfl, rfl⟩ := hcut
        go_step
        generalize hbb : s[k].toNat = b at *
        go_step
        go_cut [5, 6, 7] (fun s5 s6 s7 wx => wr = wx ∧ ∃ n lo hi : Nat, s5 = .int .i64 n ∧ s6 = .int .u8 lo ∧ s7 = .int .u8 hi ∧ isLead (bt s k) n lo hi)
        case first =>
          -- CLASSES
          have hc : (0 ≤ b ∧ b ≤ 127) ∨ (128 ≤ b ∧ b ≤ 193) ∨ (194 ≤ b ∧ b ≤ 223) ∨ (224 ≤ b ∧ b ≤ 224) ∨ (225 ≤ b ∧ b ≤ 236) ∨ (237 ≤ b ∧ b ≤ 237) ∨ (238 ≤ b ∧ b ≤ 239) ∨ (240 ≤ b ∧ b ≤ 240) ∨ (241 ≤ b ∧ b ≤ 243) ∨ (244 ≤ b ∧ b ≤ 244) ∨ (245 ≤ b ∧ b ≤ 255) := by have := bt_lt s k; have := HB.out; omega
          rcases hc with ⟨c1, c2⟩ | ⟨c1, c2⟩ | ⟨c1, c2⟩ | ⟨c1, c2⟩ | ⟨c1, c2⟩ | ⟨c1, c2⟩ | ⟨c1, c2⟩ | ⟨c1, c2⟩ | ⟨c1, c2⟩ | ⟨c1, c2⟩ | ⟨c1, c2⟩
          · have d0 : decide ((b : Int) < 128) = true := by simp; omega
            have d1 : decide (194 ≤ (b : Int)) = false := by simp; omega
            have d2 : decide ((b : Int) ≤ 223) = true := by simp; omega
            have d3 : decide (224 ≤ (b : Int)) = false := by simp; omega
            have d4 : decide ((b : Int) ≤ 239) = true := by simp; omega
            have d5 : ((b : Int) == 224) = false := by simp; omega
            have d6 : ((b : Int) == 237) = false := by simp; omega
            have d7 : decide (240 ≤ (b : Int)) = false := by simp; omega
            have d8 : decide ((b : Int) ≤ 244) = true := by simp; omega
            have d9 : ((b : Int) == 240) = false := by simp; omega
            have d10 : ((b : Int) == 244) = false := by simp; omega
            have HC := Lib.hid (And.intro c1 c2)
            clear c1 c2
            go_wp2_with fail
            go_meet
            exact ⟨rfl, 0, 128, 191, rfl, rfl, rfl, Or.inl ⟨by have := HB.out; have := HC.out; omega, rfl⟩⟩
          · have d0 : decide ((b : Int) < 128) = false := by simp; omega
            have d1 : decide (194 ≤ (b : Int)) = false := by simp; omega
            have d2 : decide ((b : Int) ≤ 223) = true := by simp; omega
            have d3 : decide (224 ≤ (b : Int)) = false := by simp; omega
            have d4 : decide ((b : Int) ≤ 239) = true := by simp; omega
            have d5 : ((b : Int) == 224) = false := by simp; omega
            have d6 : ((b : Int) == 237) = false := by simp; omega
            have d7 : decide (240 ≤ (b : Int)) = false := by simp; omega
            have d8 : decide ((b : Int) ≤ 244) = true := by simp; omega
            have d9 : ((b : Int) == 240) = false := by simp; omega
            have d10 : ((b : Int) == 244) = false := by simp; omega
            have HF := Lib.hid (show validB s = false by rw [← HVD.out]; exact vd_none s k hlt (by have := HB.out; omega))
            clear c1 c2
            go_wp2_with fail
            go_ret
            exact ⟨by rw [HF.out]; rfl, HX.out⟩
          · have d0 : decide ((b : Int) < 128) = false := by simp; omega
            have d1 : decide (194 ≤ (b : Int)) = true := by simp; omega
            have d2 : decide ((b : Int) ≤ 223) = true := by simp; omega
            have d3 : decide (224 ≤ (b : Int)) = false := by simp; omega
            have d4 : decide ((b : Int) ≤ 239) = true := by simp; omega
            have d5 : ((b : Int) == 224) = false := by simp; omega
            have d6 : ((b : Int) == 237) = false := by simp; omega
            have d7 : decide (240 ≤ (b : Int)) = false := by simp; omega
            have d8 : decide ((b : Int) ≤ 244) = true := by simp; omega
            have d9 : ((b : Int) == 240) = false := by simp; omega
            have d10 : ((b : Int) == 244) = false := by simp; omega
            have HC := Lib.hid (And.intro c1 c2)
            clear c1 c2
            go_wp2_with fail
            go_meet
            refine ⟨rfl, 1, 128, 191, rfl, rfl, rfl, Or.inr ?_⟩
            have h := HC.out
            rw [HB.out] at h
            exact lead_mid _ _ _ _ (by have := HB.out; omega)
          · have d0 : decide ((b : Int) < 128) = false := by simp; omega
            have d1 : decide (194 ≤ (b : Int)) = true := by simp; omega
            have d2 : decide ((b : Int) ≤ 223) = false := by simp; omega
            have d3 : decide (224 ≤ (b : Int)) = true := by simp; omega
            have d4 : decide ((b : Int) ≤ 239) = true := by simp; omega
            have d5 : ((b : Int) == 224) = true := by simp; omega
            have d6 : ((b : Int) == 237) = false := by simp; omega
            have d7 : decide (240 ≤ (b : Int)) = false := by simp; omega
            have d8 : decide ((b : Int) ≤ 244) = true := by simp; omega
            have d9 : ((b : Int) == 240) = false := by simp; omega
            have d10 : ((b : Int) == 244) = false := by simp; omega
            have HC := Lib.hid (And.intro c1 c2)
            clear c1 c2
            go_wp2_with fail
            go_meet
            refine ⟨rfl, 2, 160, 191, rfl, rfl, rfl, Or.inr ?_⟩
            have e : bt s k = 224 := by have := HB.out; have := HC.out; omega
            rw [e]
            decide
          · have d0 : decide ((b : Int) < 128) = false := by simp; omega
            have d1 : decide (194 ≤ (b : Int)) = true := by simp; omega
            have d2 : decide ((b : Int) ≤ 223) = false := by simp; omega
            have d3 : decide (224 ≤ (b : Int)) = true := by simp; omega
            have d4 : decide ((b : Int) ≤ 239) = true := by simp; omega
            have d5 : ((b : Int) == 224) = false := by simp; omega
            have d6 : ((b : Int) == 237) = false := by simp; omega
            have d7 : decide (240 ≤ (b : Int)) = false := by simp; omega
            have d8 : decide ((b : Int) ≤ 244) = true := by simp; omega
            have d9 : ((b : Int) == 240) = false := by simp; omega
            have d10 : ((b : Int) == 244) = false := by simp; omega
            have HC := Lib.hid (And.intro c1 c2)
            clear c1 c2
            go_wp2_with fail
            go_meet
            refine ⟨rfl, 2, 128, 191, rfl, rfl, rfl, Or.inr ?_⟩
            have h := HC.out
            rw [HB.out] at h
            exact lead_mid _ _ _ _ (by have := HB.out; omega)
          · have d0 : decide ((b : Int) < 128) = false := by simp; omega
            have d1 : decide (194 ≤ (b : Int)) = true := by simp; omega
            have d2 : decide ((b : Int) ≤ 223) = false := by simp; omega
            have d3 : decide (224 ≤ (b : Int)) = true := by simp; omega
            have d4 : decide ((b : Int) ≤ 239) = true := by simp; omega
            have d5 : ((b : Int) == 224) = false := by simp; omega
            have d6 : ((b : Int) == 237) = true := by simp; omega
            have d7 : decide (240 ≤ (b : Int)) = false := by simp; omega
            have d8 : decide ((b : Int) ≤ 244) = true := by simp; omega
            have d9 : ((b : Int) == 240) = false := by simp; omega
            have d10 : ((b : Int) == 244) = false := by simp; omega
            have HC := Lib.hid (And.intro c1 c2)
            clear c1 c2
            go_wp2_with fail
            go_meet
            refine ⟨rfl, 2, 128, 159, rfl, rfl, rfl, Or.inr ?_⟩
            have e : bt s k = 237 := by have := HB.out; have := HC.out; omega
            rw [e]
            decide
          · have d0 : decide ((b : Int) < 128) = false := by simp; omega
            have d1 : decide (194 ≤ (b : Int)) = true := by simp; omega
            have d2 : decide ((b : Int) ≤ 223) = false := by simp; omega
            have d3 : decide (224 ≤ (b : Int)) = true := by simp; omega
            have d4 : decide ((b : Int) ≤ 239) = true := by simp; omega
            have d5 : ((b : Int) == 224) = false := by simp; omega
            have d6 : ((b : Int) == 237) = false := by simp; omega
            have d7 : decide (240 ≤ (b : Int)) = false := by simp; omega
            have d8 : decide ((b : Int) ≤ 244) = true := by simp; omega
            have d9 : ((b : Int) == 240) = false := by simp; omega
            have d10 : ((b : Int) == 244) = false := by simp; omega
            have HC := Lib.hid (And.intro c1 c2)
            clear c1 c2
            go_wp2_with fail
            go_meet
            refine ⟨rfl, 2, 128, 191, rfl, rfl, rfl, Or.inr ?_⟩
            have h := HC.out
            rw [HB.out] at h
            exact lead_mid _ _ _ _ (by have := HB.out; omega)
          · have d0 : decide ((b : Int) < 128) = false := by simp; omega
            have d1 : decide (194 ≤ (b : Int)) = true := by simp; omega
            have d2 : decide ((b : Int) ≤ 223) = false := by simp; omega
            have d3 : decide (224 ≤ (b : Int)) = true := by simp; omega
            have d4 : decide ((b : Int) ≤ 239) = false := by simp; omega
            have d5 : ((b : Int) == 224) = false := by simp; omega
            have d6 : ((b : Int) == 237) = false := by simp; omega
            have d7 : decide (240 ≤ (b : Int)) = true := by simp; omega
            have d8 : decide ((b : Int) ≤ 244) = true := by simp; omega
            have d9 : ((b : Int) == 240) = true := by simp; omega
            have d10 : ((b : Int) == 244) = false := by simp; omega
            have HC := Lib.hid (And.intro c1 c2)
            clear c1 c2
            go_wp2_with fail
            go_meet
            refine ⟨rfl, 3, 144, 191, rfl, rfl, rfl, Or.inr ?_⟩
            have e : bt s k = 240 := by have := HB.out; have := HC.out; omega
            rw [e]
            decide
          · have d0 : decide ((b : Int) < 128) = false := by simp; omega
            have d1 : decide (194 ≤ (b : Int)) = true := by simp; omega
            have d2 : decide ((b : Int) ≤ 223) = false := by simp; omega
            have d3 : decide (224 ≤ (b : Int)) = true := by simp; omega
            have d4 : decide ((b : Int) ≤ 239) = false := by simp; omega
            have d5 : ((b : Int) == 224) = false := by simp; omega
            have d6 : ((b : Int) == 237) = false := by simp; omega
            have d7 : decide (240 ≤ (b : Int)) = true := by simp; omega
            have d8 : decide ((b : Int) ≤ 244) = true := by simp; omega
            have d9 : ((b : Int) == 240) = false := by simp; omega
            have d10 : ((b : Int) == 244) = false := by simp; omega
            have HC := Lib.hid (And.intro c1 c2)
            clear c1 c2
            go_wp2_with fail
            go_meet
            refine ⟨rfl, 3, 128, 191, rfl, rfl, rfl, Or.inr ?_⟩
            have h := HC.out
            rw [HB.out] at h
            exact lead_mid _ _ _ _ (by have := HB.out; omega)
          · have d0 : decide ((b : Int) < 128) = false := by simp; omega
            have d1 : decide (194 ≤ (b : Int)) = true := by simp; omega
            have d2 : decide ((b : Int) ≤ 223) = false := by simp; omega
            have d3 : decide (224 ≤ (b : Int)) = true := by simp; omega
            have d4 : decide ((b : Int) ≤ 239) = false := by simp; omega
            have d5 : ((b : Int) == 224) = false := by simp; omega
            have d6 : ((b : Int) == 237) = false := by simp; omega
            have d7 : decide (240 ≤ (b : Int)) = true := by simp; omega
            have d8 : decide ((b : Int) ≤ 244) = true := by simp; omega
            have d9 : ((b : Int) == 240) = false := by simp; omega
            have d10 : ((b : Int) == 244) = true := by simp; omega
            have HC := Lib.hid (And.intro c1 c2)
            clear c1 c2
            go_wp2_with fail
            go_meet
            refine ⟨rfl, 3, 128, 143, rfl, rfl, rfl, Or.inr ?_⟩
            have e : bt s k = 244 := by have := HB.out; have := HC.out; omega
            rw [e]
            decide
          · have d0 : decide ((b : Int) < 128) = false := by simp; omega
            have d1 : decide (194 ≤ (b : Int)) = true := by simp; omega
            have d2 : decide ((b : Int) ≤ 223) = false := by simp; omega
            have d3 : decide (224 ≤ (b : Int)) = true := by simp; omega
            have d4 : decide ((b : Int) ≤ 239) = false := by simp; omega
            have d5 : ((b : Int) == 224) = false := by simp; omega
            have d6 : ((b : Int) == 237) = false := by simp; omega
            have d7 : decide (240 ≤ (b : Int)) = true := by simp; omega
            have d8 : decide ((b : Int) ≤ 244) = false := by simp; omega
            have d9 : ((b : Int) == 240) = false := by simp; omega
            have d10 : ((b : Int) == 244) = false := by simp; omega
            have HF := Lib.hid (show validB s = false by rw [← HVD.out]; exact vd_none s k hlt (by have := HB.out; omega))
            clear c1 c2
            go_wp2_with fail
            go_ret
            exact ⟨by rw [HF.out]; rfl, HX.out⟩
          -- END
        case rest =>
          obtain ⟨rfl, n, lo, hi, rfl, rfl, rfl, hlead⟩ := hcut
          have HL := Lib.hid hlead
          have hn3 := lead_le hlead
          clear hlead
          go_step
          go_wp2_with fail
          go_loopg [6, 7, 8] n (fun g s6 s7 s8 wx => ∃ j : Nat, 1 ≤ j ∧ j ≤ n + 1 ∧ g = n + 1 - j ∧ s6 = .int .u8 ((if j = 1 then lo else 128 : Nat) : Int) ∧ s7 = .int .u8 ((if j = 1 then hi else 191 : Nat) : Int) ∧ s8 = .int .i64 j ∧ wr = wx ∧ ∀ i, 1 ≤ i → i < j → okB s k lo hi i)
          case atStart => exact ⟨1, by omega, by omega, by omega, rfl, rfl, rfl, rfl, fun i h1 h2 => by omega⟩
          case round =>
            obtain ⟨j, hj1, hjn, hgj, rfl, rfl, rfl, rfl, hok⟩ := hrel
            have HOK := Lib.hid hok
            have HJ := Lib.hid (And.intro hj1 (And.intro hjn hgj))
            clear hok hgj
            obtain ⟨lj, hlj⟩ : ∃ lj, (if j = 1 then lo else 128) = lj := ⟨_, rfl⟩
            obtain ⟨hj', hhj⟩ : ∃ hj', (if j = 1 then hi else 191) = hj' := ⟨_, rfl⟩
            rw [hlj, hhj]
            have HLJ := Lib.hid (And.intro hlj hhj)
            clear hlj hhj
            by_cases hjl : j ≤ n
            · have q1 : decide ((j : Int) ≤ (n : Int)) = true := by simpa using hjl
              have hw1 : IntKind.i64.wrap ((k : Int) + (j : Int)) = ((k + j : Nat) : Int) := by rw [IntWalk.i64_in _ (by have := HS.out; omega)]; omega
              have hw2 : IntKind.i64.wrap ((j : Int) + 1) = (j : Int) + 1 := IntWalk.i64_in _ (by omega)
              by_cases hs1 : k + j < s.size
              · have q2 : decide ((s.size : Int) ≤ ((k + j : Nat) : Int)) = false := by simp; omega
                have q3 : ((k + j : Nat) : Int) < (s.size : Int) := by omega
                have HBJ := Lib.hid (bt_at s (k + j) hs1)
                have hbad : s[k + j].toNat < lj ∨ hj' < s[k + j].toNat → validB s = false := by
                  intro hb
                  rw [← HVD.out]
                  refine vd_bad s k n lo hi j hlt HL.out hj1 hjl (fun h => ?_)
                  have h2 := HBJ.out
                  unfold okB at h
                  rw [HLJ.out.1, HLJ.out.2] at h
                  omega
                have HBAD := Lib.hid hbad
                have HLT := Lib.hid (And.intro hlt hs1)
                clear hbad
                go_wp2_with fail
                · rename_i h1 h2 h3 h4
                  go_ret
                  exact ⟨by rw [HBAD.out (by omega)]; rfl, HX.out⟩
                · rename_i h1 h2 h3 h4
                  go_roundg (n + 1 - (j + 1))
                  case measure => have := HJ.out; omega
                  case rel =>
                    refine ⟨j + 1, by omega, by omega, rfl, by rw [if_neg (by omega)]; rfl, by rw [if_neg (by omega)]; rfl, by go_num, rfl, fun i hi1 hi2 => ?_⟩
                    by_cases e : i = j
                    · subst e
                      refine ⟨HLT.out.2, ?_⟩
                      rw [HLJ.out.1, HLJ.out.2, ← HBJ.out]
                      omega
                    · exact HOK.out i hi1 (by omega)
                · rename_i h1 h2 h3
                  go_ret
                  exact ⟨by rw [HBAD.out (by omega)]; rfl, HX.out⟩
              · have q2 : decide ((s.size : Int) ≤ ((k + j : Nat) : Int)) = true := by simp; omega
                have HF := Lib.hid (show validB s = false by rw [← HVD.out]; exact vd_bad s k n lo hi j hlt HL.out hj1 hjl (fun h => hs1 h.1))
                go_wp2_with fail
                go_ret
                exact ⟨by rw [HF.out]; rfl, HX.out⟩
            · have q1 : decide ((j : Int) ≤ (n : Int)) = false := by simp; omega
              have hk1 := HS.out
              have hwA : IntKind.i64.wrap ((k : Int) + 1) = (k : Int) + 1 := IntWalk.i64_in _ (by omega)
              have hwB : IntKind.i64.wrap ((k : Int) + 1 + (n : Int)) = ((k + 1 + n : Nat) : Int) := by rw [IntWalk.i64_in _ (by omega)]; omega
              have hin : k + 1 + n ≤ s.size := by
                by_cases hn0 : n = 0
                · omega
                · have := (HOK.out n (by omega) (by omega)).1; omega
              have HV2 := Lib.hid ((vd_ok s k n lo hi hlt HL.out (fun i h1 h2 => HOK.out i h1 (by omega))).trans HVD.out)
              clear hk1
              go_wp2_with fail
              go_roundg (s.size - (k + 1 + n))
              case measure => have := HK.out.2; omega
              case rel => exact ⟨k + 1 + n, hin, rfl, by first | rfl | (rw [hwB]) | (show Value.int .i64 (IntKind.i64.wrap (IntKind.i64.wrap ((k : Int) + 1) + (n : Int))) = _; rw [hwA, hwB]), HX.out, HV2.out⟩
    · have t1 : decide ((k : Int) < (s.size : Int)) = false := by simpa using hlt
      have he : k = s.size := by have := HK.out.1; omega
      have HR := Lib.hid (show validB s = true by rw [← HVD.out, he, ← size_list s, List.drop_length]; rfl)
      clear he
      go_wp2_with fail
      go_ret
      exact ⟨by rw [HR.out]; rfl, HX.out⟩

end Go.Proofs.YthbjcihdlhkboaaGreatDoor
