/- A user's name, prepared, at every text. -/
import Derived.Test.YthbjcihdlhkboaaGreatDoorNm2
namespace Go.Proofs.YthbjcihdlhkboaaGreatDoor
set_option linter.unusedSimpArgs false
set_option linter.unusedVariables false
open Go.RowKit Go.Shelf Go.Lib

set_option maxHeartbeats 1000000 in
theorem sized_any (s : ByteArray) (valid : Bool) (w : World) (hv : Gives w 131 #[.string s] (.bool valid)) :
    Calls Tryz.prog 147 #[.string s] w fun e w' => e = .returned (.int .i64 (wordE s valid)) ∧ Below w.heap.size w w' := by
  have HV := Lib.hid hv.here
  clear hv
  unfold wordE
  by_cases h1 : 64 < s.size
  · rw [if_pos h1]
    have h2 : (64 : Int) < (s.size : Int) := by omega
    clear HV
    go_enter Tryz.func147, Tryz.ntmps147
    go_wp2_with fail
    go_ret
    exact ⟨rfl, Below.refl _ _⟩
  · rw [if_neg h1]
    have h2 : ¬ (64 : Int) < (s.size : Int) := by omega
    cases h3 : s.toList == []
    · cases valid
      · go_enter Tryz.func147, Tryz.ntmps147
        go_wp2_with fail
        refine HV.out.mono ?_
        rintro e w1 ⟨rfl, hb1⟩
        go_wp2_with fail
        go_ret
        exact ⟨by simp, hb1⟩
      · go_enter Tryz.func147, Tryz.ntmps147
        go_wp2_with fail
        refine HV.out.mono ?_
        rintro e w1 ⟨rfl, hb1⟩
        go_wp2_with fail
        go_ret
        exact ⟨by simp, hb1⟩
    · clear HV
      go_enter Tryz.func147, Tryz.ntmps147
      go_wp2_with fail
      go_ret
      exact ⟨by simp, Below.refl _ _⟩

/-- A user's name with its capitals folded. -/
def folded (s : ByteArray) : ByteArray := ⟨(Lib.mapD fold s.data.toList).toArray⟩
def validB (s : ByteArray) : Bool := Lib.validD s.data.toList
/-- A user's name, prepared, and the error. -/
def localS (s : ByteArray) : ByteArray × Int :=
  if wordE s (validB s) = 0 then (if allB localR (folded s) then (folded s, 0) else (⟨#[]⟩, 4)) else (⟨#[]⟩, wordE s (validB s))

set_option maxHeartbeats 1000000 in
theorem local_full (s : ByteArray) (w : World) (hT : Tabs w) (hs : s.size ≤ 9223372036854775807) :
    Calls Tryz.prog 110 #[.string s] w fun e w' => e = .returned (.tuple #[.string (localS s).1, .int .i64 (localS s).2]) ∧ Below w.heap.size w w' := by
  have hsm : wordE s (validB s) = 0 → s.size ≤ 64 := by
    intro h
    unfold wordE at h
    split at h
    · omega
    · omega
  have hv := valid_any s w hT (by omega)
  have C1 := Lib.hid (sized_any s (validB s) w hv)
  have HT := Lib.hid hT
  have HS := Lib.hid hsm
  clear hT hs hv hsm
  unfold localS
  generalize hE : wordE s (validB s) = E at C1 HS ⊢
  by_cases h0 : E = 0
  · subst h0
    rw [if_pos rfl]
    clear hE
    have c2 : ∀ W (hW : Below w.heap.size w W), Calls Tryz.prog 148 #[.func (.func 149) #[] #[], .string s] W fun e w' => e = .returned (.string (folded s)) ∧ Below W.heap.size W w' := fun W hW => map_any s W (HT.out.later hW) (by have := HS.out rfl; omega)
    have C2 := Lib.hid c2
    have C3 := Lib.hid (fun W => all_local (folded s) W)
    clear c2
    generalize folded s = M at C2 C3 ⊢
    cases hA : allB localR M
    · rw [hA] at C3
      go_enter Tryz.func110, Tryz.ntmps110
      go_wp2_with fail
      refine C1.out.mono ?_
      rintro e w1 ⟨rfl, hb1⟩
      go_wp2_with fail
      refine (C2.out _ hb1).mono ?_
      rintro e w2 ⟨rfl, hb2⟩
      go_wp2_with fail
      refine (C3.out _).mono ?_
      rintro e w3 ⟨rfl, hb3⟩
      go_wp2_with fail
      go_ret2
      exact ⟨by simp, (hb1.trans (hb2.mono hb1.size)).trans (hb3.mono (Nat.le_trans hb1.size hb2.size))⟩
    · rw [hA] at C3
      go_enter Tryz.func110, Tryz.ntmps110
      go_wp2_with fail
      refine C1.out.mono ?_
      rintro e w1 ⟨rfl, hb1⟩
      go_wp2_with fail
      refine (C2.out _ hb1).mono ?_
      rintro e w2 ⟨rfl, hb2⟩
      go_wp2_with fail
      refine (C3.out _).mono ?_
      rintro e w3 ⟨rfl, hb3⟩
      go_wp2_with fail
      go_ret2
      exact ⟨by simp, (hb1.trans (hb2.mono hb1.size)).trans (hb3.mono (Nat.le_trans hb1.size hb2.size))⟩
  · rw [if_neg h0]
    have n0 : (E == 0) = false := by simpa using h0
    have n1 : (E != 0) = true := by simpa using h0
    clear h0 hE
    go_enter Tryz.func110, Tryz.ntmps110
    go_wp2_with fail
    refine C1.out.mono ?_
    rintro e w1 ⟨rfl, hb1⟩
    go_wp2_with fail
    go_ret2
    exact ⟨rfl, hb1⟩

end Go.Proofs.YthbjcihdlhkboaaGreatDoor
