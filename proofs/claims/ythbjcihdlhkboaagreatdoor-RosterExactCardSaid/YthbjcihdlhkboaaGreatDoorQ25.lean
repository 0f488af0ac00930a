/- The reference's test of UTF-8: what it reckons is what the library's own test reckons. The reference's names of users: what they reckon is what the program's reckon. Runes, encoded and read again; a folded text's letters. The reference's texts: a name's error, a name's and groups', texts sorted. -/
import Derived.Lib.ValidLaws
import Derived.Deep.DeepCutAuto
import Derived.Lib.MapLaws
import Derived.Test.YthbjcihdlhkboaaGreatDoorQ24
namespace Go.Proofs.YthbjcihdlhkboaaGreatDoor
set_option linter.unusedSimpArgs false
set_option linter.unusedVariables false
open Go.RowKit Go.Maps Go.Shelf Go.Lib

def bt (s : ByteArray) (i : Nat) : Nat := (s.data.toList.getD i 0).toNat
theorem bt_lt (s : ByteArray) (i : Nat) : bt s i < 256 := (s.data.toList.getD i 0).toNat_lt
theorem bt_at (s : ByteArray) (i : Nat) (h : i < s.size) : s[i].toNat = bt s i := by
  unfold bt
  rw [List.getD_eq_getElem?_getD, list_at s i h]
  rfl
theorem drop_getD (l : List UInt8) (k i : Nat) : (l.drop k).getD i 0 = l.getD (k + i) 0 := by
  rw [List.getD_eq_getElem?_getD, List.getD_eq_getElem?_getD, List.getElem?_drop]

/-- The byte at place k + i lies where it must. -/
def okB (s : ByteArray) (k lo hi i : Nat) : Prop := k + i < s.size ∧ (if i = 1 then lo else 128) ≤ bt s (k + i) ∧ bt s (k + i) ≤ (if i = 1 then hi else 191)
def isLead (b n lo hi : Nat) : Prop := (b < 128 ∧ n = 0) ∨ (128 ≤ b ∧ 1 ≤ n ∧ n ≤ 3 ∧ Lib.firstT b % 8 = n + 1 ∧ Lib.accLo (Lib.firstT b / 16) = lo ∧ Lib.accHi (Lib.firstT b / 16) = hi)

theorem lead_le {b n lo hi : Nat} (h : isLead b n lo hi) : n ≤ 3 := by
  rcases h with ⟨_, rfl⟩ | ⟨_, _, h, _⟩
  · omega
  · exact h

theorem vd_ok (s : ByteArray) (k n lo hi : Nat) (hk : k < s.size) (hl : isLead (bt s k) n lo hi) (ho : ∀ i, 1 ≤ i → i < n + 1 → okB s k lo hi i) :
    Lib.validD (s.data.toList.drop (k + 1 + n)) = Lib.validD (s.data.toList.drop k) := by
  have hlen : k < s.data.toList.length := by rw [size_list]; exact hk
  rcases hl with ⟨hb, rfl⟩ | ⟨hb, h1, h3, e1, e2, e3⟩
  · have e : s.data.toList.getD k 0 = s.data.toList[k] := by rw [List.getD_eq_getElem?_getD, List.getElem?_eq_getElem hlen]; rfl
    rw [List.drop_eq_getElem_cons hlen, Lib.validD_cons _ _ (by rw [← e]; exact hb)]
  · have hl := Lib.validD_lead (s.data.toList.drop k) (by intro h; have := congrArg List.length h; simp at this; omega) (by rw [drop_getD]; exact hb)
    rw [hl]
    simp only [drop_getD, Nat.add_zero]
    have hx : ∀ i, (s.data.toList.getD i 0).toNat = bt s i := fun _ => rfl
    simp only [hx, e1, e2, e3, List.length_drop, size_list]
    have o1 := ho 1 (by omega) (by omega)
    unfold okB at ho o1
    unfold Lib.checkN
    have hn : n = 1 ∨ n = 2 ∨ n = 3 := by omega
    rcases hn with rfl | rfl | rfl
    · rw [if_pos rfl, if_neg (by simp at o1; omega)]
      simp [List.drop_drop, Nat.add_assoc]
    · have o2 := ho 2 (by omega) (by omega)
      rw [if_neg (by omega), if_pos rfl, if_neg (by simp at o1 o2; omega)]
      simp [List.drop_drop, Nat.add_assoc]
    · have o2 := ho 2 (by omega) (by omega)
      have o3 := ho 3 (by omega) (by omega)
      rw [if_neg (by omega), if_neg (by omega), if_pos rfl, if_neg (by simp at o1 o2 o3; omega)]
      simp [List.drop_drop, Nat.add_assoc]

theorem vd_bad (s : ByteArray) (k n lo hi j : Nat) (hk : k < s.size) (hl : isLead (bt s k) n lo hi) (h1j : 1 ≤ j) (hj : j ≤ n) (ho : ¬ okB s k lo hi j) :
    Lib.validD (s.data.toList.drop k) = false := by
  have hlen : k < s.data.toList.length := by rw [size_list]; exact hk
  rcases hl with ⟨hb, rfl⟩ | ⟨hb, h1, h3, e1, e2, e3⟩
  · omega
  · have hl := Lib.validD_lead (s.data.toList.drop k) (by intro h; have := congrArg List.length h; simp at this; omega) (by rw [drop_getD]; exact hb)
    rw [hl]
    simp only [drop_getD, Nat.add_zero]
    have hx : ∀ i, (s.data.toList.getD i 0).toNat = bt s i := fun _ => rfl
    simp only [hx, e1, e2, e3, List.length_drop, size_list]
    unfold okB at ho
    unfold Lib.checkN
    have hn : n = 1 ∨ n = 2 ∨ n = 3 := by omega
    have hjj : j = 1 ∨ j = 2 ∨ j = 3 := by omega
    rcases hn with rfl | rfl | rfl
    · rcases hjj with rfl | rfl | rfl
      · rw [if_pos rfl, if_pos (by simp at ho; omega)]
      · omega
      · omega
    · rcases hjj with rfl | rfl | rfl
      · rw [if_neg (by omega), if_pos rfl, if_pos (by simp at ho; omega)]
      · rw [if_neg (by omega), if_pos rfl, if_pos (by simp at ho; omega)]
      · omega
    · rcases hjj with rfl | rfl | rfl
      · rw [if_neg (by omega), if_neg (by omega), if_pos rfl, if_pos (by simp at ho; omega)]
      · rw [if_neg (by omega), if_neg (by omega), if_pos rfl, if_pos (by simp at ho; omega)]
      · rw [if_neg (by omega), if_neg (by omega), if_pos rfl, if_pos (by simp at ho; omega)]

theorem lead_mid (b n lo hi : Nat) (h : (194 ≤ b ∧ b ≤ 223 ∧ n = 1 ∧ lo = 128 ∧ hi = 191) ∨ (((225 ≤ b ∧ b ≤ 236) ∨ (238 ≤ b ∧ b ≤ 239)) ∧ n = 2 ∧ lo = 128 ∧ hi = 191) ∨ (241 ≤ b ∧ b ≤ 243 ∧ n = 3 ∧ lo = 128 ∧ hi = 191)) :
    128 ≤ b ∧ 1 ≤ n ∧ n ≤ 3 ∧ Lib.firstT b % 8 = n + 1 ∧ Lib.accLo (Lib.firstT b / 16) = lo ∧ Lib.accHi (Lib.firstT b / 16) = hi := by
  have key : ∀ c : Fin 256, ((194 ≤ c.val ∧ c.val ≤ 223) → Lib.firstT c.val = 2) ∧ (((225 ≤ c.val ∧ c.val ≤ 236) ∨ (238 ≤ c.val ∧ c.val ≤ 239)) → Lib.firstT c.val = 3) ∧ ((241 ≤ c.val ∧ c.val ≤ 243) → Lib.firstT c.val = 4) := by decide +kernel
  have hb : b < 256 := by omega
  obtain ⟨k1, k2, k3⟩ := key ⟨b, hb⟩
  rcases h with ⟨h1, h2, rfl, rfl, rfl⟩ | ⟨h1, rfl, rfl, rfl⟩ | ⟨h1, h2, rfl, rfl, rfl⟩
  · rw [k1 ⟨h1, h2⟩]; refine ⟨by omega, by omega, by omega, by decide, by decide, by decide⟩
  · rw [k2 h1]; refine ⟨by omega, by omega, by omega, by decide, by decide, by decide⟩
  · rw [k3 ⟨h1, h2⟩]; refine ⟨by omega, by omega, by omega, by decide, by decide, by decide⟩

/-- A byte that may not lead. -/
theorem vd_none (s : ByteArray) (k : Nat) (hk : k < s.size) (hb : (128 ≤ bt s k ∧ bt s k < 194) ∨ 244 < bt s k) : Lib.validD (s.data.toList.drop k) = false := by
  have hl := Lib.validD_lead (s.data.toList.drop k) (by intro h; have := congrArg List.length h; simp at this; omega) (by rw [drop_getD]; show 128 ≤ bt s k; omega)
  rw [hl]
  simp only [drop_getD, Nat.add_zero]
  have hx : ∀ i, (s.data.toList.getD i 0).toNat = bt s i := fun _ => rfl
  simp only [hx]
  have e : Lib.firstT (bt s k) = 241 := by
    have := bt_lt s k
    unfold Lib.firstT
    repeat' split
    all_goals first | rfl | omega
  rw [e]
  unfold Lib.checkN
  rfl


set_option maxRecDepth 100000 in
set_option maxHeartbeats 8000000 in
theorem refvalid_any (s : ByteArray) (hs : s.size ≤ 4294967281) (w : World) :
    Calls Tryz.prog 128 #[.string s] w fun e w' => e = .returned (.bool (validB s)) ∧ Below w.heap.size w w' := by
  have HS := Lib.hid hs
  clear hs
  go_enter Tryz.func128, Tryz.ntmps128
  go_wp2_with fail
  go_loopg [3] s.size (fun g s3 wx => ∃ k : Nat, k ≤ s.size ∧ g = s.size - k ∧ s3 = .int .i64 k ∧ Below w.heap.size w wx ∧ Lib.validD (s.data.toList.drop k) = validB s)
  case atStart => exact ⟨0, by omega, rfl, rfl, Below.refl _ _, rfl⟩
  case round =>
    obtain ⟨k, hk, hgk, rfl, hbx, hvd⟩ := hrel
    have HX := Lib.hid hbx
    have HVD := Lib.hid hvd
    have HK := Lib.hid (And.intro hk hgk)
    clear hbx hvd hgk hk
    by_cases hlt : k < s.size
    · have t1 : decide ((k : Int) < (s.size : Int)) = true := by simpa using hlt
      have t2 : (k : Int) < (s.size : Int) := by omega
      have HB := Lib.hid (bt_at s k hlt)
      go_upto_region 5 with fail
      go_cut [6, 7] (fun s6 s7 wx => s6 = .int .u8 128 ∧ s7 = .int .u8 191 ∧ wr = wx)
      case first =>
        go_wp2_with fail
        go_meet
        exact ⟨rfl, rfl, rfl⟩
      case rest =>
        obtain ⟨rfl, rfl, rfl⟩ := hcut
        go_step
        generalize hbb : s[k].toNat = b at *
        go_step
        go_cut [5, 6, 7] (fun s5 s6 s7 wx => wr = wx ∧ ∃ n lo hi : Nat, s5 = .int .i64 n ∧ s6 = .int .u8 lo ∧ s7 = .int .u8 hi ∧ isLead (bt s k) n lo hi)
        case first =>
          -- CLASSES
          have hc : (0 ≤ b ∧ b ≤ 127) ∨ (128 ≤ b ∧ b ≤ 193) ∨ (194 ≤ b ∧ b ≤ 223) ∨ (224 ≤ b ∧ b ≤ 224) ∨ (225 ≤ b ∧ b ≤ 236) ∨ (237 ≤ b ∧ b ≤ 237) ∨ (238 ≤ b ∧ b ≤ 239) ∨ (240 ≤ b ∧ b ≤ 240) ∨ (241 ≤ b ∧ b ≤ 243) ∨ (244 ≤ b ∧ b ≤ 244) ∨ (245 ≤ b ∧ b ≤ 255) := by have := bt_lt s k; have := HB.out; omega
          rcases hc with ⟨c1, c2⟩ | ⟨c1, c2⟩ | ⟨c1, c2⟩ | ⟨c1, c2⟩ | ⟨c1, c2⟩ | ⟨c1, c2⟩ | ⟨c1, c2⟩ | ⟨c1, c2⟩ | ⟨c1, c2⟩ | ⟨c1, c2⟩ | ⟨c1, c2⟩
          · have d0 : decide ((b : Int) < 128) = true := by simp; omega
            have d1 : decide (194 ≤ (b : Int)) = false := by simp; omega
            have d2 : decide ((b : Int) ≤ 223) = true := by simp; omega
            have d3 : decide (224 ≤ (b : Int)) = false := by simp; omega
            have d4 : decide ((b : Int) ≤ 239) = true := by simp; omega
            have d5 : ((b : Int) == 224) = false := by simp; omega
            have d6 : ((b : Int) == 237) = false := by simp; omega
            have d7 : decide (240 ≤ (b : Int)) = false := by simp; omega
            have d8 : decide ((b : Int) ≤ 244) = true := by simp; omega
            have d9 : ((b : Int) == 240) = false := by simp; omega
            have d10 : ((b : Int) == 244) = false := by simp; omega
            have HC := Lib.hid (And.intro c1 c2)
            clear c1 c2
            go_wp2_with fail
            go_meet
            exact ⟨rfl, 0, 128, 191, rfl, rfl, rfl, Or.inl ⟨by have := HB.out; have := HC.out; omega, rfl⟩⟩
          · have d0 : decide ((b : Int) < 128) = false := by simp; omega
            have d1 : decide (194 ≤ (b : Int)) = false := by simp; omega
            have d2 : decide ((b : Int) ≤ 223) = true := by simp; omega
            have d3 : decide (224 ≤ (b : Int)) = false := by simp; omega
            have d4 : decide ((b : Int) ≤ 239) = true := by simp; omega
            have d5 : ((b : Int) == 224) = false := by simp; omega
            have d6 : ((b : Int) == 237) = false := by simp; omega
            have d7 : decide (240 ≤ (b : Int)) = false := by simp; omega
            have d8 : decide ((b : Int) ≤ 244) = true := by simp; omega
            have d9 : ((b : Int) == 240) = false := by simp; omega
            have d10 : ((b : Int) == 244) = false := by simp; omega
            have HF := Lib.hid (show validB s = false by rw [← HVD.out]; exact vd_none s k hlt (by have := HB.out; omega))
            clear c1 c2
            go_wp2_with fail
            go_ret
            exact ⟨by rw [HF.out]; rfl, HX.out⟩
          · have d0 : decide ((b : Int) < 128) = false := by simp; omega
            have d1 : decide (194 ≤ (b : Int)) = true := by simp; omega
            have d2 : decide ((b : Int) ≤ 223) = true := by simp; omega
            have d3 : decide (224 ≤ (b : Int)) = false := by simp; omega
            have d4 : decide ((b : Int) ≤ 239) = true := by simp; omega
            have d5 : ((b : Int) == 224) = false := by simp; omega
            have d6 : ((b : Int) == 237) = false := by simp; omega
            have d7 : decide (240 ≤ (b : Int)) = false := by simp; omega
            have d8 : decide ((b : Int) ≤ 244) = true := by simp; omega
            have d9 : ((b : Int) == 240) = false := by simp; omega
            have d10 : ((b : Int) == 244) = false := by simp; omega
            have HC := Lib.hid (And.intro c1 c2)
            clear c1 c2
            go_wp2_with fail
            go_meet
            refine ⟨rfl, 1, 128, 191, rfl, rfl, rfl, Or.inr ?_⟩
            have h := HC.out
            rw [HB.out] at h
            exact lead_mid _ _ _ _ (by have := HB.out; omega)
          · have d0 : decide ((b : Int) < 128) = false := by simp; omega
            have d1 : decide (194 ≤ (b : Int)) = true := by simp; omega
            have d2 : decide ((b : Int) ≤ 223) = false := by simp; omega
            have d3 : decide (224 ≤ (b : Int)) = true := by simp; omega
            have d4 : decide ((b : Int) ≤ 239) = true := by simp; omega
            have d5 : ((b : Int) == 224) = true := by simp; omega
            have d6 : ((b : Int) == 237) = false := by simp; omega
            have d7 : decide (240 ≤ (b : Int)) = false := by simp; omega
            have d8 : decide ((b : Int) ≤ 244) = true := by simp; omega
            have d9 : ((b : Int) == 240) = false := by simp; omega
            have d10 : ((b : Int) == 244) = false := by simp; omega
            have HC := Lib.hid (And.intro c1 c2)
            clear c1 c2
            go_wp2_with fail
            go_meet
            refine ⟨rfl, 2, 160, 191, rfl, rfl, rfl, Or.inr ?_⟩
            have e : bt s k = 224 := by have := HB.out; have := HC.out; omega
            rw [e]
            decide
          · have d0 : decide ((b : Int) < 128) = false := by simp; omega
            have d1 : decide (194 ≤ (b : Int)) = true := by simp; omega
            have d2 : decide ((b : Int) ≤ 223) = false := by simp; omega
            have d3 : decide (224 ≤ (b : Int)) = true := by simp; omega
            have d4 : decide ((b : Int) ≤ 239) = true := by simp; omega
            have d5 : ((b : Int) == 224) = false := by simp; omega
            have d6 : ((b : Int) == 237) = false := by simp; omega
            have d7 : decide (240 ≤ (b : Int)) = false := by simp; omega
            have d8 : decide ((b : Int) ≤ 244) = true := by simp; omega
            have d9 : ((b : Int) == 240) = false := by simp; omega
            have d10 : ((b : Int) == 244) = false := by simp; omega
            have HC := Lib.hid (And.intro c1 c2)
            clear c1 c2
            go_wp2_with fail
            go_meet
            refine ⟨rfl, 2, 128, 191, rfl, rfl, rfl, Or.inr ?_⟩
            have h := HC.out
            rw [HB.out] at h
            exact lead_mid _ _ _ _ (by have := HB.out; omega)
          · have d0 : decide ((b : Int) < 128) = false := by simp; omega
            have d1 : decide (194 ≤ (b : Int)) = true := by simp; omega
            have d2 : decide ((b : Int) ≤ 223) = false := by simp; omega
            have d3 : decide (224 ≤ (b : Int)) = true := by simp; omega
            have d4 : decide ((b : Int) ≤ 239) = true := by simp; omega
            have d5 : ((b : Int) == 224) = false := by simp; omega
            have d6 : ((b : Int) == 237) = true := by simp; omega
            have d7 : decide (240 ≤ (b : Int)) = false := by simp; omega
            have d8 : decide ((b : Int) ≤ 244) = true := by simp; omega
            have d9 : ((b : Int) == 240) = false := by simp; omega
            have d10 : ((b : Int) == 244) = false := by simp; omega
            have HC := Lib.hid (And.intro c1 c2)
            clear c1 c2
            go_wp2_with fail
            go_meet
            refine ⟨rfl, 2, 128, 159, rfl, rfl, rfl, Or.inr ?_⟩
            have e : bt s k = 237 := by have := HB.out; have := HC.out; omega
            rw [e]
            decide
          · have d0 : decide ((b : Int) < 128) = false := by simp; omega
            have d1 : decide (194 ≤ (b : Int)) = true := by simp; omega
            have d2 : decide ((b : Int) ≤ 223) = false := by simp; omega
            have d3 : decide (224 ≤ (b : Int)) = true := by simp; omega
            have d4 : decide ((b : Int) ≤ 239) = true := by simp; omega
            have d5 : ((b : Int) == 224) = false := by simp; omega
            have d6 : ((b : Int) == 237) = false := by simp; omega
            have d7 : decide (240 ≤ (b : Int)) = false := by simp; omega
            have d8 : decide ((b : Int) ≤ 244) = true := by simp; omega
            have d9 : ((b : Int) == 240) = false := by simp; omega
            have d10 : ((b : Int) == 244) = false := by simp; omega
            have HC := Lib.hid (And.intro c1 c2)
            clear c1 c2
            go_wp2_with fail
            go_meet
            refine ⟨rfl, 2, 128, 191, rfl, rfl, rfl, Or.inr ?_⟩
            have h := HC.out
            rw [HB.out] at h
            exact lead_mid _ _ _ _ (by have := HB.out; omega)
          · have d0 : decide ((b : Int) < 128) = false := by simp; omega
            have d1 : decide (194 ≤ (b : Int)) = true := by simp; omega
            have d2 : decide ((b : Int) ≤ 223) = false := by simp; omega
            have d3 : decide (224 ≤ (b : Int)) = true := by simp; omega
            have d4 : decide ((b : Int) ≤ 239) = false := by simp; omega
            have d5 : ((b : Int) == 224) = false := by simp; omega
            have d6 : ((b : Int) == 237) = false := by simp; omega
            have d7 : decide (240 ≤ (b : Int)) = true := by simp; omega
            have d8 : decide ((b : Int) ≤ 244) = true := by simp; omega
            have d9 : ((b : Int) == 240) = true := by simp; omega
            have d10 : ((b : Int) == 244) = false := by simp; omega
            have HC := Lib.hid (And.intro c1 c2)
            clear c1 c2
            go_wp2_with fail
            go_meet
            refine ⟨rfl, 3, 144, 191, rfl, rfl, rfl, Or.inr ?_⟩
            have e : bt s k = 240 := by have := HB.out; have := HC.out; omega
            rw [e]
            decide
          · have d0 : decide ((b : Int) < 128) = false := by simp; omega
            have d1 : decide (194 ≤ (b : Int)) = true := by simp; omega
            have d2 : decide ((b : Int) ≤ 223) = false := by simp; omega
            have d3 : decide (224 ≤ (b : Int)) = true := by simp; omega
            have d4 : decide ((b : Int) ≤ 239) = false := by simp; omega
            have d5 : ((b : Int) == 224) = false := by simp; omega
            have d6 : ((b : Int) == 237) = false := by simp; omega
            have d7 : decide (240 ≤ (b : Int)) = true := by simp; omega
            have d8 : decide ((b : Int) ≤ 244) = true := by simp; omega
            have d9 : ((b : Int) == 240) = false := by simp; omega
            have d10 : ((b : Int) == 244) = false := by simp; omega
            have HC := Lib.hid (And.intro c1 c2)
            clear c1 c2
            go_wp2_with fail
            go_meet
            refine ⟨rfl, 3, 128, 191, rfl, rfl, rfl, Or.inr ?_⟩
            have h := HC.out
            rw [HB.out] at h
            exact lead_mid _ _ _ _ (by have := HB.out; omega)
          · have d0 : decide ((b : Int) < 128) = false := by simp; omega
            have d1 : decide (194 ≤ (b : Int)) = true := by simp; omega
            have d2 : decide ((b : Int) ≤ 223) = false := by simp; omega
            have d3 : decide (224 ≤ (b : Int)) = true := by simp; omega
            have d4 : decide ((b : Int) ≤ 239) = false := by simp; omega
            have d5 : ((b : Int) == 224) = false := by simp; omega
            have d6 : ((b : Int) == 237) = false := by simp; omega
            have d7 : decide (240 ≤ (b : Int)) = true := by simp; omega
            have d8 : decide ((b : Int) ≤ 244) = true := by simp; omega
            have d9 : ((b : Int) == 240) = false := by simp; omega
            have d10 : ((b : Int) == 244) = true := by simp; omega
            have HC := Lib.hid (And.intro c1 c2)
            clear c1 c2
            go_wp2_with fail
            go_meet
            refine ⟨rfl, 3, 128, 143, rfl, rfl, rfl, Or.inr ?_⟩
            have e : bt s k = 244 := by have := HB.out; have := HC.out; omega
            rw [e]
            decide
          · have d0 : decide ((b : Int) < 128) = false := by simp; omega
            have d1 : decide (194 ≤ (b : Int)) = true := by simp; omega
            have d2 : decide ((b : Int) ≤ 223) = false := by simp; omega
            have d3 : decide (224 ≤ (b : Int)) = true := by simp; omega
            have d4 : decide ((b : Int) ≤ 239) = false := by simp; omega
            have d5 : ((b : Int) == 224) = false := by simp; omega
            have d6 : ((b : Int) == 237) = false := by simp; omega
            have d7 : decide (240 ≤ (b : Int)) = true := by simp; omega
            have d8 : decide ((b : Int) ≤ 244) = false := by simp; omega
            have d9 : ((b : Int) == 240) = false := by simp; omega
            have d10 : ((b : Int) == 244) = false := by simp; omega
            have HF := Lib.hid (show validB s = false by rw [← HVD.out]; exact vd_none s k hlt (by have := HB.out; omega))
            clear c1 c2
            go_wp2_with fail
            go_ret
            exact ⟨by rw [HF.out]; rfl, HX.out⟩
          -- END
        case rest =>
          obtain ⟨rfl, n, lo, hi, rfl, rfl, rfl, hlead⟩ := hcut
          have HL := Lib.hid hlead
          have hn3 := lead_le hlead
          clear hlead
          go_step
          go_wp2_with fail
          go_loopg [6, 7, 8] n (fun g s6 s7 s8 wx => ∃ j : Nat, 1 ≤ j ∧ j ≤ n + 1 ∧ g = n + 1 - j ∧ s6 = .int .u8 ((if j = 1 then lo else 128 : Nat) : Int) ∧ s7 = .int .u8 ((if j = 1 then hi else 191 : Nat) : Int) ∧ s8 = .int .i64 j ∧ wr = wx ∧ ∀ i, 1 ≤ i → i < j → okB s k lo hi i)
          case atStart => exact ⟨1, by omega, by omega, by omega, rfl, rfl, rfl, rfl, fun i h1 h2 => by omega⟩
          case round =>
            obtain ⟨j, hj1, hjn, hgj, rfl, rfl, rfl, rfl, hok⟩ := hrel
            have HOK := Lib.hid hok
            have HJ := Lib.hid (And.intro hj1 (And.intro hjn hgj))
            clear hok hgj
            obtain ⟨lj, hlj⟩ : ∃ lj, (if j = 1 then lo else 128) = lj := ⟨_, rfl⟩
            obtain ⟨hj', hhj⟩ : ∃ hj', (if j = 1 then hi else 191) = hj' := ⟨_, rfl⟩
            rw [hlj, hhj]
            have HLJ := Lib.hid (And.intro hlj hhj)
            clear hlj hhj
            by_cases hjl : j ≤ n
            · have q1 : decide ((j : Int) ≤ (n : Int)) = true := by simpa using hjl
              have hw1 : IntKind.i64.wrap ((k : Int) + (j : Int)) = ((k + j : Nat) : Int) := by rw [IntWalk.i64_in _ (by have := HS.out; omega)]; omega
              have hw2 : IntKind.i64.wrap ((j : Int) + 1) = (j : Int) + 1 := IntWalk.i64_in _ (by omega)
              by_cases hs1 : k + j < s.size
              · have q2 : decide ((s.size : Int) ≤ ((k + j : Nat) : Int)) = false := by simp; omega
                have q3 : ((k + j : Nat) : Int) < (s.size : Int) := by omega
                have HBJ := Lib.hid (bt_at s (k + j) hs1)
                have hbad : s[k + j].toNat < lj ∨ hj' < s[k + j].toNat → validB s = false := by
                  intro hb
                  rw [← HVD.out]
                  refine vd_bad s k n lo hi j hlt HL.out hj1 hjl (fun h => ?_)
                  have h2 := HBJ.out
                  unfold okB at h
                  rw [HLJ.out.1, HLJ.out.2] at h
                  omega
                have HBAD := Lib.hid hbad
                have HLT := Lib.hid (And.intro hlt hs1)
                clear hbad
                go_wp2_with fail
                · rename_i h1 h2 h3 h4
                  go_ret
                  exact ⟨by rw [HBAD.out (by omega)]; rfl, HX.out⟩
                · rename_i h1 h2 h3 h4
                  go_roundg (n + 1 - (j + 1))
                  case measure => have := HJ.out; omega
                  case rel =>
                    refine ⟨j + 1, by omega, by omega, rfl, by rw [if_neg (by omega)]; rfl, by rw [if_neg (by omega)]; rfl, by go_num, rfl, fun i hi1 hi2 => ?_⟩
                    by_cases e : i = j
                    · subst e
                      refine ⟨HLT.out.2, ?_⟩
                      rw [HLJ.out.1, HLJ.out.2, ← HBJ.out]
                      omega
                    · exact HOK.out i hi1 (by omega)
                · rename_i h1 h2 h3
                  go_ret
                  exact ⟨by rw [HBAD.out (by omega)]; rfl, HX.out⟩
              · have q2 : decide ((s.size : Int) ≤ ((k + j : Nat) : Int)) = true := by simp; omega
                have HF := Lib.hid (show validB s = false by rw [← HVD.out]; exact vd_bad s k n lo hi j hlt HL.out hj1 hjl (fun h => hs1 h.1))
                go_wp2_with fail
                go_ret
                exact ⟨by rw [HF.out]; rfl, HX.out⟩
            · have q1 : decide ((j : Int) ≤ (n : Int)) = false := by simp; omega
              have hk1 := HS.out
              have hwA : IntKind.i64.wrap ((k : Int) + 1) = (k : Int) + 1 := IntWalk.i64_in _ (by omega)
              have hwB : IntKind.i64.wrap ((k : Int) + 1 + (n : Int)) = ((k + 1 + n : Nat) : Int) := by rw [IntWalk.i64_in _ (by omega)]; omega
              have hin : k + 1 + n ≤ s.size := by
                by_cases hn0 : n = 0
                · omega
                · have := (HOK.out n (by omega) (by omega)).1; omega
              have HV2 := Lib.hid ((vd_ok s k n lo hi hlt HL.out (fun i h1 h2 => HOK.out i h1 (by omega))).trans HVD.out)
              clear hk1
              go_wp2_with fail
              go_roundg (s.size - (k + 1 + n))
              case measure => have := HK.out.2; omega
              case rel => exact ⟨k + 1 + n, hin, rfl, by first | rfl | (rw [hwB]) | (show Value.int .i64 (IntKind.i64.wrap (IntKind.i64.wrap ((k : Int) + 1) + (n : Int))) = _; rw [hwA, hwB]), HX.out, HV2.out⟩
    · have t1 : decide ((k : Int) < (s.size : Int)) = false := by simpa using hlt
      have he : k = s.size := by have := HK.out.1; omega
      have HR := Lib.hid (show validB s = true by rw [← HVD.out, he, ← size_list s, List.drop_length]; rfl)
      clear he
      go_wp2_with fail
      go_ret
      exact ⟨by rw [HR.out]; rfl, HX.out⟩

end Go.Proofs.YthbjcihdlhkboaaGreatDoor

namespace Go.Proofs.YthbjcihdlhkboaaGreatDoor
set_option linter.unusedSimpArgs false
set_option linter.unusedVariables false
open Go.RowKit Go.Maps Go.Shelf Go.Lib

theorem fold_yes (r : Int) (h : (65 ≤ r ∧ r ≤ 90) ∨ (192 ≤ r ∧ r ≤ 222 ∧ ¬ r = 215) ∨ (913 ≤ r ∧ r ≤ 937 ∧ ¬ r = 930) ∨ (1040 ≤ r ∧ r ≤ 1071)) : fold r = r + 32 := by
  unfold fold
  rw [if_pos]
  unfold isFold within
  simp
  omega
theorem fold_no (r : Int) (h : ¬ ((65 ≤ r ∧ r ≤ 90) ∨ (192 ≤ r ∧ r ≤ 222 ∧ ¬ r = 215) ∨ (913 ≤ r ∧ r ≤ 937 ∧ ¬ r = 930) ∨ (1040 ≤ r ∧ r ≤ 1071))) : fold r = r := by
  unfold fold
  rw [if_neg]
  unfold isFold within
  simp
  omega
theorem letter_yes (r : Int) (h : (97 ≤ r ∧ r ≤ 122) ∨ (48 ≤ r ∧ r ≤ 57) ∨ r = 46 ∨ r = 45 ∨ r = 95 ∨ (223 ≤ r ∧ r ≤ 255 ∧ ¬ r = 247) ∨ (945 ≤ r ∧ r ≤ 969) ∨ (1072 ≤ r ∧ r ≤ 1103)) : localR r = true := by
  unfold localR digit within
  simp
  omega
theorem letter_no (r : Int) (h : ¬ ((97 ≤ r ∧ r ≤ 122) ∨ (48 ≤ r ∧ r ≤ 57) ∨ r = 46 ∨ r = 45 ∨ r = 95 ∨ (223 ≤ r ∧ r ≤ 255 ∧ ¬ r = 247) ∨ (945 ≤ r ∧ r ≤ 969) ∨ (1072 ≤ r ∧ r ≤ 1103))) : localR r = false := by
  unfold localR digit within
  simp
  omega

set_option maxRecDepth 100000 in
set_option maxHeartbeats 4000000 in
theorem reffold_any (r : Int) (h0 : 0 ≤ r) (h1 : r ≤ 1114111) (w : World) :
    Calls Tryz.prog 140 #[.int .i32 r] w fun e w' => e = .returned (.int .i32 (fold r)) ∧ Below w.heap.size w w' := by
  have hw : IntKind.i32.wrap (r + 32) = r + 32 := by
    unfold IntKind.wrap
    simp [IntKind.bits, IntKind.signed]
    omega
  go_enter Tryz.func140, Tryz.ntmps140
  go_wp2_with fail
  all_goals
    go_ret
    refine ⟨?_, Below.refl _ _⟩
    try subst_vars
    first
      | exact (congrArg (fun z => Ending.returned (.int .i32 z)) (fold_no _ (by first | assumption | omega))).symm
      | exact (congrArg (fun z => Ending.returned (.int .i32 z)) (fold_yes _ (by first | assumption | omega))).symm

set_option maxRecDepth 100000 in
set_option maxHeartbeats 4000000 in
theorem refletter_any (r : Int) (h0 : 0 ≤ r) (h1 : r ≤ 1114143) (w : World) :
    Calls Tryz.prog 139 #[.int .i32 r] w fun e w' => e = .returned (.bool (localR r)) ∧ Below w.heap.size w w' := by
  go_enter Tryz.func139, Tryz.ntmps139
  go_wp2_with fail
  all_goals
    go_ret
    refine ⟨?_, Below.refl _ _⟩
    try subst_vars
    first
      | exact (congrArg (fun z => Ending.returned (.bool z)) (letter_yes _ (by omega))).symm
      | exact (congrArg (fun z => Ending.returned (.bool z)) (letter_no _ (by omega))).symm
      | (refine congrArg (fun z => Ending.returned (.bool z)) ?_
         show _ = _
         first
           | (rw [letter_yes _ (by omega)]; simp; done)
           | (rw [letter_yes _ (by omega)]; simp; omega)
           | (rw [letter_no _ (by omega)]; simp; omega)
           | (rw [letter_no _ (by omega)]; simp; done)
           | (rw [Bool.eq_iff_iff]; unfold localR digit within; simp; omega))

end Go.Proofs.YthbjcihdlhkboaaGreatDoor

namespace Go.Proofs.YthbjcihdlhkboaaGreatDoor
set_option linter.unusedSimpArgs false
set_option linter.unusedVariables false
open Go.RowKit Go.Maps Go.Shelf Go.Lib

theorem byteZ (x : Int) (h0 : 0 ≤ x) (h1 : x < 256) : (x.toNat.toUInt8).toNat = x.toNat := by
  rw [Nat.toUInt8, UInt8.toNat_ofNat']
  omega

set_option maxRecDepth 100000 in
set_option maxHeartbeats 2000000 in
theorem decode_encode (r : Nat) (t : List UInt8) (hv : r < 55296 ∨ (57344 ≤ r ∧ r ≤ 1114111)) : Lib.decodeL (Lib.encodeRune (r : Int) ++ t) = (r, (Lib.encodeRune (r : Int)).length) := by
  rw [Lib.decodeL_N]
  unfold Lib.encodeRune
  by_cases c1 : r ≤ 127
  · rw [Lib.encodeRuneZ_one (by omega) (by omega)]
    simp only [List.map_cons, List.map_nil, List.cons_append, List.nil_append, List.getD_cons_zero, List.length_cons, List.length_nil]
    rw [byteZ _ (by omega) (by omega)]
    unfold Lib.decodeN
    rw [if_pos (by omega)]
    simp
  by_cases c2 : r ≤ 2047
  · rw [Lib.encodeRuneZ_two (by omega) (by omega)]
    simp only [List.map_cons, List.map_nil, List.cons_append, List.nil_append, List.getD_cons_zero, List.getD_cons_succ, List.length_cons, List.length_nil]
    rw [byteZ _ (by omega) (by omega), byteZ _ (by omega) (by omega)]
    unfold Lib.decodeN
    rw [if_neg (by omega), if_pos (by omega), if_pos (by omega)]
    refine Prod.ext ?_ rfl
    simp only
    omega
  by_cases c3 : r ≤ 65535
  · rw [Lib.encodeRuneZ_three (by omega)]
    simp only [List.map_cons, List.map_nil, List.cons_append, List.nil_append, List.getD_cons_zero, List.getD_cons_succ, List.length_cons, List.length_nil]
    rw [byteZ _ (by omega) (by omega), byteZ _ (by omega) (by omega), byteZ _ (by omega) (by omega)]
    unfold Lib.decodeN
    rw [if_neg (by omega), if_neg (by omega), if_pos (by omega), if_pos (by omega)]
    refine Prod.ext ?_ rfl
    simp only
    omega
  · rw [Lib.encodeRuneZ_four (by omega) (by omega)]
    simp only [List.map_cons, List.map_nil, List.cons_append, List.nil_append, List.getD_cons_zero, List.getD_cons_succ, List.length_cons, List.length_nil]
    rw [byteZ _ (by omega) (by omega), byteZ _ (by omega) (by omega), byteZ _ (by omega) (by omega), byteZ _ (by omega) (by omega)]
    unfold Lib.decodeN
    rw [if_neg (by omega), if_neg (by omega), if_neg (by omega), if_pos (by omega), if_pos (by omega)]
    refine Prod.ext ?_ rfl
    simp only
    omega

/-- What is decoded from valid bytes is a rune. -/
theorem decodeL_scalar (l : List UInt8) (hne : l ≠ []) (hv : ¬ ((Lib.decodeL l).1 = 65533 ∧ (Lib.decodeL l).2 = 1)) : (Lib.decodeL l).1 < 55296 ∨ (57344 ≤ (Lib.decodeL l).1 ∧ (Lib.decodeL l).1 ≤ 1114111) := by
  rw [Lib.decodeL_N] at hv ⊢
  have k0 := (l.getD 0 0).toNat_lt
  have k1 := (l.getD 1 0).toNat_lt
  have k2 := (l.getD 2 0).toNat_lt
  have k3 := (l.getD 3 0).toNat_lt
  rcases Lib.decodeN_shape l.length (l.getD 0 0).toNat (l.getD 1 0).toNat (l.getD 2 0).toNat (l.getD 3 0).toNat with ⟨c, e⟩ | ⟨c1, c2, c3, cv, e⟩ | ⟨c1, c2, c3, c4, cv, cs, e⟩ | ⟨c1, c2, c3, c4, c5, cv, cw, e⟩ | e
  all_goals (rw [e] at hv ⊢; dsimp only at hv ⊢)
  · omega
  · omega
  · omega
  · omega
  · exact absurd ⟨rfl, rfl⟩ hv

theorem fold_scalar (c : Nat) (h : c < 55296 ∨ (57344 ≤ c ∧ c ≤ 1114111)) : ∃ d : Nat, fold (c : Int) = (d : Int) ∧ (d < 55296 ∨ (57344 ≤ d ∧ d ≤ 1114111)) := by
  by_cases h2 : (65 ≤ (c : Int) ∧ (c : Int) ≤ 90) ∨ (192 ≤ (c : Int) ∧ (c : Int) ≤ 222 ∧ ¬ (c : Int) = 215) ∨ (913 ≤ (c : Int) ∧ (c : Int) ≤ 937 ∧ ¬ (c : Int) = 930) ∨ (1040 ≤ (c : Int) ∧ (c : Int) ≤ 1071)
  · exact ⟨c + 32, by rw [fold_yes _ h2]; omega, by omega⟩
  · exact ⟨c, fold_no _ h2, h⟩

/-- Are all the text's runes letters? -/
def letGo : Nat → List UInt8 → Bool
  | 0, _ => true
  | n + 1, l => if l = [] then true else if localR (Lib.decodeL l).1 then letGo n (l.drop (Lib.decodeL l).2) else false
def letD (l : List UInt8) : Bool := letGo l.length l
theorem letGo_nil : ∀ n, letGo n [] = true
  | 0 => rfl
  | _ + 1 => by simp [letGo]
theorem letGo_fuel : ∀ (n m : Nat) (l : List UInt8), l.length ≤ n → l.length ≤ m → letGo n l = letGo m l
  | 0, m, l, hn, _ => by
    have : l = [] := List.eq_nil_of_length_eq_zero (by omega)
    subst this
    rw [letGo_nil, letGo_nil]
  | n + 1, 0, l, _, hm => by
    have : l = [] := List.eq_nil_of_length_eq_zero (by omega)
    subst this
    rw [letGo_nil, letGo_nil]
  | n + 1, m + 1, l, hn, hm => by
    unfold letGo
    by_cases hne : l = []
    · simp [hne]
    · have hw := Lib.decodeL_width l
      have hl : 0 < l.length := List.length_pos_iff.2 hne
      rw [if_neg hne, if_neg hne, letGo_fuel n m (l.drop (Lib.decodeL l).2) (by rw [List.length_drop]; omega) (by rw [List.length_drop]; omega)]
theorem letD_step (l : List UInt8) (hne : l ≠ []) : letD l = if localR (Lib.decodeL l).1 then letD (l.drop (Lib.decodeL l).2) else false := by
  have hl : 0 < l.length := List.length_pos_iff.2 hne
  have hw := Lib.decodeL_width l
  obtain ⟨n, hn⟩ : ∃ n, l.length = n + 1 := ⟨l.length - 1, by omega⟩
  unfold letD
  rw [hn]
  show (if l = [] then true else _) = _
  rw [if_neg hne, letGo_fuel n (l.drop (Lib.decodeL l).2).length _ (by rw [List.length_drop]; omega) (Nat.le_refl _)]

theorem allFrom (s : ByteArray) : ∀ (f pos : Nat), s.size - pos ≤ f → decide (Lib.idxFuncFrom (fun x => !localR x) true s f pos < 0) = letD (s.data.toList.drop pos)
  | 0, pos, h => by
    rw [List.drop_eq_nil_of_le (by rw [size_list]; omega)]
    rfl
  | f + 1, pos, h => by
    by_cases hp : pos < s.size
    · have hne : s.data.toList.drop pos ≠ [] := by intro h; have := congrArg List.length h; simp at this; omega
      have hw := Lib.decodeL_width (s.data.toList.drop pos)
      rw [letD_step _ hne, Lib.decodeL_drop, List.drop_drop]
      rw [Lib.decodeL_drop] at hw
      unfold Lib.idxFuncFrom
      rw [if_pos hp]
      cases hl : localR (Utf8.decode s pos).1
      · simp
      · have ih := allFrom s f (pos + (Utf8.decode s pos).2) (by omega)
        simp [ih]
    · rw [List.drop_eq_nil_of_le (by rw [size_list]; omega), Lib.idxFuncFrom_end _ _ _ _ _ hp]
      rfl
theorem allB_let (s : ByteArray) : allB localR s = letD s.data.toList := allFrom s s.size 0 (by omega)

/-- A step through a folded text. -/
theorem fold_step (l : List UInt8) (hne : l ≠ []) (hv : Lib.validD l = true) :
    Lib.validD (l.drop (Lib.decodeL l).2) = true ∧ 0 ≤ fold (Lib.decodeL l).1 ∧ fold (Lib.decodeL l).1 ≤ 1114143 ∧
    Lib.mapD fold l = Lib.encodeRune (fold (Lib.decodeL l).1) ++ Lib.mapD fold (l.drop (Lib.decodeL l).2) ∧
    letD (Lib.mapD fold l) = if localR (fold (Lib.decodeL l).1) then letD (Lib.mapD fold (l.drop (Lib.decodeL l).2)) else false := by
  rw [Lib.validD_step l hne] at hv
  have hbad : ¬ ((Lib.decodeL l).1 = 65533 ∧ (Lib.decodeL l).2 = 1) := by
    intro h
    rw [if_pos h] at hv
    cases hv
  rw [if_neg hbad] at hv
  obtain ⟨d, hd, hs⟩ := fold_scalar _ (decodeL_scalar l hne hbad)
  have hm := Lib.mapD_step fold l hne
  rw [hd, if_pos (by omega)] at hm
  refine ⟨hv, by omega, by omega, by rw [hd]; exact hm, ?_⟩
  have he := Lib.encodeRuneZ_length (d : Int)
  have hle : (Lib.encodeRune (d : Int)).length = (Lib.encodeRuneZ (d : Int)).length := by simp [Lib.encodeRune]
  rw [hm, letD_step _ (by intro h; have := congrArg List.length h; simp only [List.length_append, List.length_nil] at this; omega), decode_encode d _ hs, hd]
  simp

theorem rune_ok (r : Nat) (hv : r < 55296 ∨ (57344 ≤ r ∧ r ≤ 1114111)) : Utf8.valid (r : Int) = true := by
  unfold Utf8.valid
  simp only [Bool.and_eq_true, Bool.or_eq_true, decide_eq_true_eq]
  omega

set_option maxRecDepth 100000 in
/-- The model's own form of a rune is the library's. -/
theorem encode_lib (r : Nat) (hv : r < 55296 ∨ (57344 ≤ r ∧ r ≤ 1114111)) : (Utf8.encode (r : Int)).data.toList = Lib.encodeRune (r : Int) := by
  have hval := rune_ok r hv
  unfold Utf8.encode
  rw [hval]
  simp only [if_true, Int.toNat_natCast]
  unfold Lib.encodeRune
  by_cases c1 : r ≤ 127
  · rw [Lib.encodeRuneZ_one (by omega) (by omega), if_pos (by omega)]
    simp only [List.map_cons, List.map_nil, Int.toNat_natCast]
  by_cases c2 : r ≤ 2047
  · have e1 : (192 + (r : Int) / 64).toNat = 192 + r / 64 := by omega
    have e2 : (128 + (r : Int) % 64).toNat = 128 + r % 64 := by omega
    rw [Lib.encodeRuneZ_two (by omega) (by omega), if_neg (by omega), if_pos (by omega)]
    simp only [List.map_cons, List.map_nil, e1, e2]
  by_cases c3 : r ≤ 65535
  · have e1 : (224 + (r : Int) / 4096).toNat = 224 + r / 4096 := by omega
    have e2 : (128 + (r : Int) / 64 % 64).toNat = 128 + r / 64 % 64 := by omega
    have e3 : (128 + (r : Int) % 64).toNat = 128 + r % 64 := by omega
    rw [Lib.encodeRuneZ_three (by omega), if_neg (by omega), if_neg (by omega), if_pos (by omega)]
    simp only [List.map_cons, List.map_nil, e1, e2, e3]
  · have e1 : (240 + (r : Int) / 262144).toNat = 240 + r / 262144 := by omega
    have e2 : (128 + (r : Int) / 4096 % 64).toNat = 128 + r / 4096 % 64 := by omega
    have e3 : (128 + (r : Int) / 64 % 64).toNat = 128 + r / 64 % 64 := by omega
    have e4 : (128 + (r : Int) % 64).toNat = 128 + r % 64 := by omega
    rw [Lib.encodeRuneZ_four (by omega) (by omega), if_neg (by omega), if_neg (by omega), if_neg (by omega)]
    simp only [List.map_cons, List.map_nil, e1, e2, e3, e4]

set_option maxRecDepth 100000 in
set_option maxHeartbeats 8000000 in
theorem reflocal_any (s : ByteArray) (w : World) :
    Calls Tryz.prog 97 #[.string s] w fun e w' => e = .returned (.tuple #[.string (localS s).1, .int .i64 (localS s).2]) ∧ Below w.heap.size w w' := by
  unfold localS
  by_cases h1 : 64 < s.size
  · have e5 : wordE s (validB s) = 5 := by unfold wordE; rw [if_pos h1]
    rw [e5]
    have h2 : (64 : Int) < (s.size : Int) := by omega
    go_enter Tryz.func97, Tryz.ntmps97
    go_wp2_with fail
    go_ret2
    exact ⟨by simp, Below.refl _ _⟩
  have hs : s.size ≤ 4294967281 := by omega
  have CV := Lib.hid (fun W => refvalid_any s hs W)
  clear hs
  have h2 : ¬ (64 : Int) < (s.size : Int) := by omega
  cases h3 : s.toList == []
  rotate_left
  · have e4 : wordE s (validB s) = 4 := by unfold wordE; rw [if_neg h1, h3]; rfl
    rw [e4]
    go_enter Tryz.func97, Tryz.ntmps97
    go_wp2_with fail
    go_ret2
    exact ⟨by simp, Below.refl _ _⟩
  cases hv : validB s
  · have e4 : wordE s false = 4 := by unfold wordE; rw [if_neg h1, h3]; rfl
    rw [hv] at CV
    rw [e4]
    go_enter Tryz.func97, Tryz.ntmps97
    go_wp2_with fail
    refine (CV.out _).mono ?_
    rintro e w1 ⟨rfl, hb1⟩
    go_wp2_with fail
    go_ret2
    exact ⟨by simp, hb1⟩
  · have e0 : wordE s true = 0 := by unfold wordE; rw [if_neg h1, h3]; rfl
    rw [hv] at CV
    rw [e0, if_pos rfl]
    rw [allB_let]
    have hfl : (folded s).data.toList = Lib.mapD fold s.data.toList := rfl
    rw [hfl]
    have HV := Lib.hid hv
    obtain ⟨RR, hRR⟩ : ∃ R : ByteArray × Int, (if letD (Lib.mapD fold s.data.toList) = true then (folded s, 0) else (⟨#[]⟩, 4)) = R := ⟨_, rfl⟩
    rw [hRR]
    have HRR := Lib.hid hRR
    clear hv e0 hfl hRR
    have H64 := Lib.hid h1
    clear h1
    go_enter Tryz.func97, Tryz.ntmps97
    go_wp2_with fail
    refine (CV.out _).mono ?_
    rintro e w1 ⟨rfl, hb1⟩
    have HB1 := Lib.hid hb1
    clear hb1
    go_wp2_with fail
    go_loopg [4] s.size (fun g s4 wx => ∃ (pos : Nat) (acc : List UInt8), g = s.size - pos ∧ s4 = .string ⟨acc.toArray⟩ ∧ wx.heap[w1.heap.size]? = some (.stringIter s pos) ∧ Below w.heap.size w wx ∧ Lib.validD (s.data.toList.drop pos) = true ∧
      acc ++ Lib.mapD fold (s.data.toList.drop pos) = Lib.mapD fold s.data.toList ∧ letD (Lib.mapD fold (s.data.toList.drop pos)) = letD (Lib.mapD fold s.data.toList) ∧ acc.length ≤ 4 * pos)
    case atStart =>
      refine ⟨0, [], by omega, rfl, World.iter_heap w1 s 0, ?_, HV.out, rfl, rfl, by simp⟩
      exact HB1.out.trans (Below.alloc (Below.refl _ _) HB1.out.size _)
    case round =>
      obtain ⟨pos, acc, hg, rfl, hit, hbx, hvd, hacc, hlet, hal⟩ := hrel
      have hsz : w1.heap.size < wr.heap.size := (Array.getElem?_eq_some_iff.1 hit).1
      have HI := Lib.hid hit
      have HX := Lib.hid (And.intro hg (And.intro hbx (And.intro hvd (And.intro hacc (And.intro hlet hal)))))
      clear hg hbx hvd hacc hlet hal hit
      by_cases hp : pos < s.size
      · have hnx : ∀ ty, (Instr.next (.pointer (some ⟨w1.heap.size, 0, none⟩)) true ty).run Tryz.prog wr = _ := fun ty => Lib.run_next_any_at wr w1.heap.size s pos ty HI.out hp
        have hne : s.data.toList.drop pos ≠ [] := by intro h; have := congrArg List.length h; simp at this; omega
        have hst := fold_step _ hne HX.out.2.2.1
        have hwd := Lib.decodeL_width (s.data.toList.drop pos)
        rw [Lib.decodeL_drop] at hst hwd
        have hd1 := decode_le s pos
        have hit2 := Lib.hid (Lib.iterAt_heap wr w1.heap.size s pos (pos + (Utf8.decode s pos).2) HI.out)
        have hbw2 := Lib.hid (Lib.below_iterAt HX.out.2.1 (k := w1.heap.size) (by have := HB1.out.size; omega) s (pos + (Utf8.decode s pos).2))
        have hsz2 := Lib.hid (Lib.iterAt_size wr w1.heap.size s (pos + (Utf8.decode s pos).2))
        obtain ⟨hv2, hf0, hf1, hmap, hlt2⟩ := hst
        have HM := Lib.hid (And.intro hv2 (And.intro hmap hlt2))
        have hsz3 : w1.heap.size < (wr.iterAt w1.heap.size s (pos + (Utf8.decode s pos).2)).heap.size := by rw [hsz2.out]; exact hsz
        have h64 : (s.size : Int) ≤ 64 := h2
        have hacl := Lib.hid (encodeRune_len (fold (Utf8.decode s pos).1))
        clear hv2 hmap hlt2 hsz
        have HF := Lib.hid (fun W => reffold_any ((Utf8.decode s pos).1 : Int) (by omega) (by have := Lib.decodeL_rune (s.data.toList.drop pos); rw [Lib.decodeL_drop] at this; omega) W)
        have HLt := Lib.hid (fun W => refletter_any (fold (Utf8.decode s pos).1) hf0 hf1 W)
        have HE := Lib.hid (show (Utf8.encode (fold (Utf8.decode s pos).1)).data.toList = Lib.encodeRune (fold (Utf8.decode s pos).1) by
          have hbad : ¬ ((Lib.decodeL (s.data.toList.drop pos)).1 = 65533 ∧ (Lib.decodeL (s.data.toList.drop pos)).2 = 1) := by
            intro h
            have hv := HX.out.2.2.1
            rw [Lib.validD_step _ hne, if_pos h] at hv
            cases hv
          have hs := decodeL_scalar _ hne hbad
          rw [Lib.decodeL_drop] at hs
          obtain ⟨d, hd, hs'⟩ := fold_scalar _ hs
          rw [hd]
          exact encode_lib d hs')
        have HP := Lib.hid (And.intro hp (And.intro hwd hd1))
        clear hd1 hne hf0 hf1 hp
        generalize hwi : wr.iterAt w1.heap.size s (pos + (Utf8.decode s pos).2) = wi at *
        clear hwi
        cases hl : localR (fold (Utf8.decode s pos).1)
        · rw [hl] at HLt
          have HR := Lib.hid (show letD (Lib.mapD fold s.data.toList) = false by rw [← HX.out.2.2.2.2.1, HM.out.2.2, hl]; rfl)
          clear hl
          go_wp2_with fail
          refine (HF.out _).mono ?_
          rintro e w2 ⟨rfl, hb2⟩
          go_wp2_with fail
          refine (HLt.out _).mono ?_
          rintro e w3 ⟨rfl, hb3⟩
          go_wp2_with fail
          go_ret2
          rw [← HRR.out, HR.out]
          exact ⟨rfl, (hbw2.out.trans (hb2.mono hbw2.out.size)).trans (hb3.mono (Nat.le_trans hbw2.out.size hb2.size))⟩
        · rw [hl] at HLt
          have HR := Lib.hid (show letD (Lib.mapD fold (s.data.toList.drop (pos + (Utf8.decode s pos).2))) = letD (Lib.mapD fold s.data.toList) by rw [← HX.out.2.2.2.2.1, HM.out.2.2, hl, List.drop_drop]; rfl)
          have hR2 : ∀ acc' : ByteArray, acc'.data.toList = acc ++ (Utf8.encode (fold (Utf8.decode s pos).1)).data.toList → acc'.data.toList ++ Lib.mapD fold (s.data.toList.drop (pos + (Utf8.decode s pos).2)) = Lib.mapD fold s.data.toList ∧ acc'.data.toList.length ≤ 4 * (pos + (Utf8.decode s pos).2) := by
            intro acc' ha
            obtain ⟨_, _, _, h1, _, h3⟩ := HX.out
            rw [ha, HE.out]
            refine ⟨?_, ?_⟩
            · rw [← h1, HM.out.2.1, List.append_assoc, List.drop_drop]
            · rw [List.length_append]
              have := hacl.out
              omega
          have HR2 := Lib.hid hR2
          have hszz : ¬ 9223372036854775807 < (⟨acc.toArray⟩ : ByteArray).size + (Utf8.encode (fold (Utf8.decode s pos).1)).size := by
            have e1 : (⟨acc.toArray⟩ : ByteArray).size = acc.length := rfl
            have e2 := size_list (Utf8.encode (fold (Utf8.decode s pos).1))
            rw [HE.out] at e2
            have := hacl.out
            have := HX.out.2.2.2.2.2
            have := HP.out.1
            omega
          clear hl hR2
          go_wp2_with fail
          refine (HF.out _).mono ?_
          rintro e w2 ⟨rfl, hb2⟩
          go_wp2_with fail
          refine (HLt.out _).mono ?_
          rintro e w3 ⟨rfl, hb3⟩
          go_wp2_with fail
          refine (HF.out _).mono ?_
          rintro e w4 ⟨rfl, hb4⟩
          go_wp2_with fail
          go_roundg (s.size - (pos + (Utf8.decode s pos).2))
          case measure => have := HX.out.1; have := HP.out; omega
          case rel =>
            have hbb := (hbw2.out.trans (hb2.mono hbw2.out.size)).trans (hb3.mono (Nat.le_trans hbw2.out.size hb2.size))
            have hz2 := hsz2.out
            have hz0 := hbw2.out.size
            have hb2s := hb2.size
            have hb3s := hb3.size
            have hb4s := hb4.size
            obtain ⟨q1, q2⟩ := HR2.out (⟨acc.toArray⟩ ++ Utf8.encode (fold (Utf8.decode s pos).1)) (by simp)
            refine ⟨pos + (Utf8.decode s pos).2, (⟨acc.toArray⟩ ++ Utf8.encode (fold (Utf8.decode s pos).1) : ByteArray).data.toList, rfl, ?_, ?_, hbb.trans (hb4.mono (by omega)), ?_, q1, HR.out, q2⟩
            · exact congrArg Value.string (Lib.mk_data _).symm
            · exact (hb4.block _ (by omega)).trans ((hb3.block _ (by omega)).trans ((hb2.block _ (by omega)).trans hit2.out))
            · rw [← List.drop_drop]; exact HM.out.1
      · have hnx : ∀ ty, (Instr.next (.pointer (some ⟨w1.heap.size, 0, none⟩)) true ty).run Tryz.prog wr = _ := fun ty => Lib.run_next_end_at wr w1.heap.size s pos ty HI.out hp
        have he : s.data.toList.drop pos = [] := List.drop_eq_nil_of_le (by rw [size_list]; omega)
        have hR : letD (Lib.mapD fold s.data.toList) = true ∧ folded s = ⟨acc.toArray⟩ := by
          obtain ⟨_, _, _, h1, h2, _⟩ := HX.out
          rw [he] at h1 h2
          refine ⟨by rw [← h2]; rfl, ?_⟩
          unfold folded
          rw [← h1]
          simp [Lib.mapD_nil]
        have HR := Lib.hid hR
        clear hR he
        go_wp2_with fail
        go_ret2
        rw [← HRR.out, HR.out.1, HR.out.2]
        exact ⟨rfl, HX.out.2.1⟩

end Go.Proofs.YthbjcihdlhkboaaGreatDoor

namespace Go.Proofs.YthbjcihdlhkboaaGreatDoor
set_option linter.unusedSimpArgs false
set_option linter.unusedVariables false
open Go.RowKit Go.Maps Go.Shelf Go.Lib

set_option maxHeartbeats 1000000 in
theorem q16text_any (s : ByteArray) (w : World) :
    Calls Tryz.prog 141 #[.string s] w fun e w' => e = .returned (.int .i64 (textE s)) ∧ Below w.heap.size w w' := by
  unfold textE
  by_cases h1 : 64 < s.size
  · rw [if_pos h1]
    have h2 : (64 : Int) < (s.size : Int) := by omega
    clear h1
    go_enter Tryz.func141, Tryz.ntmps141
    go_wp2_with fail
    go_ret
    exact ⟨rfl, Below.refl _ _⟩
  · rw [if_neg h1]
    have h2 : ¬ (64 : Int) < (s.size : Int) := by omega
    have HV := Lib.hid (refvalid_any s (by omega) w)
    clear h1
    cases hv : validB s with
    | true =>
      rw [hv] at HV
      clear hv
      go_enter Tryz.func141, Tryz.ntmps141
      go_wp2_with fail
      refine HV.out.mono ?_
      rintro e w1 ⟨rfl, hb⟩
      have HB := Lib.hid hb
      clear hb
      go_wp2_with fail
      go_ret
      exact ⟨rfl, HB.out⟩
    | false =>
      rw [hv] at HV
      clear hv
      go_enter Tryz.func141, Tryz.ntmps141
      go_wp2_with fail
      refine HV.out.mono ?_
      rintro e w1 ⟨rfl, hb⟩
      have HB := Lib.hid hb
      clear hb
      go_wp2_with fail
      go_ret
      exact ⟨rfl, HB.out⟩

theorem groupsE_step {gs : List ByteArray} {k : Nat} (hk : k < gs.length) : groupsE (gs.drop k) = if textE gs[k] ≠ 0 then textE gs[k] else if gs[k].size = 0 then 4 else groupsE (gs.drop (k + 1)) := by
  rw [List.drop_eq_getElem_cons hk]; rfl
theorem size_zero {s : ByteArray} : (s.toList == []) = decide (s.size = 0) := by
  have hl : s.toList.length = s.size := by rw [Lib.toList_data]; exact Array.length_toList
  rw [Bool.eq_iff_iff]
  simp only [beq_iff_eq, decide_eq_true_eq]
  rw [← hl]
  constructor
  · intro e; rw [e]; rfl
  · intro e; exact List.eq_nil_of_length_eq_zero e

set_option maxRecDepth 100000 in
set_option maxHeartbeats 4000000 in
theorem q16words_any (l : ByteArray) (v : Value) (gs : List ByteArray) (w : World) (hg : Strs w v gs) :
    Calls Tryz.prog 98 #[.string l, v] w fun e w' => e = .returned (.int .i64 (wordsE l gs)) ∧ Below w.heap.size w w' := by
  obtain ⟨GA, gc, rfl⟩ : ∃ A cap, v = .slice A gs.length cap := let ⟨⟨A, cap, h, _⟩, _⟩ := hg; ⟨A, cap, h⟩
  have HG := Lib.hid hg
  have HT := Lib.hid (q16text_any l w)
  have hlen := hg.2
  clear hg
  by_cases h1 : textE l = 0
  · have e1 : wordsE l gs = if 8 < gs.length then 5 else groupsE gs := by unfold wordsE; rw [if_neg (by simpa using h1)]
    rw [h1] at HT
    rw [e1]
    clear e1 h1
    by_cases h8 : 8 < gs.length
    · rw [if_pos h8]
      have h9 : (8 : Int) < (gs.length : Int) := by omega
      clear h8
      go_enter Tryz.func98, Tryz.ntmps98
      go_wp2_with fail
      refine HT.out.mono ?_
      rintro e w1 ⟨rfl, hb⟩
      have HB := Lib.hid hb
      clear hb
      go_wp2_with fail
      go_ret
      exact ⟨rfl, HB.out⟩
    · rw [if_neg h8]
      have h9 : ¬ (8 : Int) < (gs.length : Int) := by omega
      obtain ⟨q, hq⟩ : ∃ q, groupsE gs = q := ⟨_, rfl⟩
      rw [hq]
      have HQ := Lib.hid hq
      have H8 := Lib.hid h8
      clear h8 hq
      go_enter Tryz.func98, Tryz.ntmps98
      go_wp2_with fail
      refine HT.out.mono ?_
      rintro e w1 ⟨rfl, hb⟩
      have HB := Lib.hid hb
      clear hb HT
      go_wp2_with fail
      clear h9
      go_loopg [6] gs.length (fun g s6 wx => ∃ k : Nat, k ≤ gs.length ∧ g = gs.length - k ∧ s6 = .int .i64 k ∧ Below w.heap.size w wx ∧ q = groupsE (gs.drop k))
      case atStart => exact ⟨0, Nat.zero_le _, rfl, rfl, HB.out, HQ.out.symm⟩
      case round =>
        obtain ⟨k, hk, hgk, rfl, hbx, hqk⟩ := hrel
        have HX := Lib.hid hbx
        have HK := Lib.hid (And.intro hk hgk)
        have t0 : (0 : Int) ≤ (k : Int) := by omega
        clear hbx hk hgk
        by_cases hlt : k < gs.length
        · have t1 : (k : Int) < (gs.length : Int) := by omega
          have hw : IntKind.i64.wrap ((k : Int) + 1) = (k : Int) + 1 := IntWalk.i64_in _ (by have := H8.out; omega)
          obtain ⟨b, off, rfl, _, hbl, y⟩ := (HG.out.below HX.out).at hlt
          rw [groupsE_step hlt] at hqk
          obtain ⟨t, ht⟩ : ∃ t, gs[k] = t := ⟨_, rfl⟩
          rw [ht] at y hqk
          have HTT := Lib.hid (q16text_any t wr)
          clear ht hlt
          by_cases he : textE t = 0
          · rw [if_neg (by simpa using he)] at hqk
            rw [he] at HTT
            clear he
            by_cases hz : t.size = 0
            · rw [if_pos hz] at hqk
              subst hqk
              have hz2 : (t.toList == []) = true := by rw [size_zero]; simpa using hz
              have HZ := Lib.hid hz2
              clear hz hz2
              go_wp2_with fail
              refine HTT.out.mono ?_
              rintro e w2 ⟨rfl, hb2⟩
              have y2 : w2.cell? ⟨b, off + k, none⟩ = some (.string t) := (hb2.cell hbl).trans y
              have HB2 := Lib.hid (HX.out.trans (hb2.mono HX.out.size))
              have hz2 := HZ.out
              clear hb2 y
              go_wp2_with fail
              go_ret
              exact ⟨rfl, HB2.out⟩
            · rw [if_neg hz] at hqk
              have hz2 : (t.toList == []) = false := by rw [size_zero]; simpa using hz
              have HZ := Lib.hid hz2
              have HQK := Lib.hid hqk
              clear hz hz2 hqk
              go_wp2_with fail
              refine HTT.out.mono ?_
              rintro e w2 ⟨rfl, hb2⟩
              have y2 : w2.cell? ⟨b, off + k, none⟩ = some (.string t) := (hb2.cell hbl).trans y
              have HB2 := Lib.hid (HX.out.trans (hb2.mono HX.out.size))
              have hz2 := HZ.out
              clear hb2 y
              go_wp2_with fail
              go_roundg (gs.length - (k + 1))
              case measure => have := HK.out; omega
              case rel => exact ⟨k + 1, by omega, rfl, by go_num, HB2.out, HQK.out⟩
          · rw [if_pos (by simpa using he)] at hqk
            subst hqk
            have he2 : (textE t == 0) = false := by simpa using he
            have he3 : (textE t != 0) = true := by simpa using he
            clear he
            go_wp2_with fail
            refine HTT.out.mono ?_
            rintro e w2 ⟨rfl, hb2⟩
            have HB2 := Lib.hid (HX.out.trans (hb2.mono HX.out.size))
            clear hb2 y
            go_wp2_with fail
            go_ret
            exact ⟨rfl, HB2.out⟩
        · have t1 : ¬ (k : Int) < (gs.length : Int) := by omega
          rw [List.drop_of_length_le (by omega)] at hqk
          have hq0 : q = 0 := hqk
          subst hq0
          clear hqk
          go_wp2_with fail
          go_ret
          exact ⟨rfl, HX.out⟩
  · have e1 : wordsE l gs = textE l := by unfold wordsE; rw [if_pos (by simpa using h1)]
    rw [e1]
    have he2 : (textE l == 0) = false := by simpa using h1
    have he3 : (textE l != 0) = true := by simpa using h1
    clear e1 h1
    go_enter Tryz.func98, Tryz.ntmps98
    go_wp2_with fail
    refine HT.out.mono ?_
    rintro e w1 ⟨rfl, hb⟩
    have HB := Lib.hid hb
    clear hb
    go_wp2_with fail
    go_ret
    exact ⟨rfl, HB.out⟩
end Go.Proofs.YthbjcihdlhkboaaGreatDoor
