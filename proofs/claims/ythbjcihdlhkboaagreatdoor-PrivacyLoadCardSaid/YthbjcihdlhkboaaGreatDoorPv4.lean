/- The reader of rules at every text. -/
import Derived.Test.YthbjcihdlhkboaaGreatDoorPv3
import Derived.Test.YthbjcihdlhkboaaGreatDoorNm3
namespace Go.Proofs.YthbjcihdlhkboaaGreatDoor
set_option linter.unusedSimpArgs false
set_option linter.unusedVariables false
open Go.RowKit Go.Shelf Go.Lib

def cutB (s : ByteArray) : ByteArray × ByteArray × Bool :=
  (⟨(Lib.cut s.data.toList [32]).1.toArray⟩, ⟨(Lib.cut s.data.toList [32]).2.1.toArray⟩, (Lib.cut s.data.toList [32]).2.2)
/-- A rule out of a text, or the error. -/
def parseF (s : ByteArray) : Except Int Rule :=
  parseS (cutB s).1 (cutB s).2.2 (cutB (cutB s).2.1).1 (cutB (cutB s).2.1).2.2 (cutB (cutB (cutB s).2.1).2.1).1 (cutB (cutB (cutB s).2.1).2.1).2.1 (cutB (cutB (cutB s).2.1).2.1).2.2
    (validB (cutB (cutB (cutB s).2.1).2.1).2.1) (localS (cutB (cutB (cutB s).2.1).2.1).2.1).1 (localS (cutB (cutB (cutB s).2.1).2.1).2.1).2

theorem size_mk (l : List UInt8) : (⟨l.toArray⟩ : ByteArray).size = l.length := rfl
theorem size_list (s : ByteArray) : s.data.toList.length = s.size := Array.length_toList

theorem cutB_rest (s : ByteArray) : (cutB s).2.1.size ≤ s.size := by
  show (⟨(Lib.cut s.data.toList [32]).2.1.toArray⟩ : ByteArray).size ≤ s.size
  rw [size_mk, ← size_list s]
  unfold Lib.cut
  split
  · simp
  · simp

theorem cut_gives (s : ByteArray) (w : World) (hT : Tabs w) (hs : s.size ≤ 9223372036854775807) :
    Gives w 133 #[.string s, .string ⟨#[32]⟩] (.tuple #[.string (cutB s).1, .string (cutB s).2.1, .bool (cutB s).2.2]) := cut1_any s 32 hs w

theorem parse_full (s : ByteArray) (w : World) (hT : Tabs w) (hs : s.size ≤ 9223372036854775807) :
    Calls Tryz.prog 89 #[.string s] w fun e w' => e = .returned (parseV (parseF s)) ∧ Below w.heap.size w w' := by
  have h1 := cutB_rest s
  have h2 := cutB_rest (cutB s).2.1
  have h3 := cutB_rest (cutB (cutB s).2.1).2.1
  exact parse_any s _ _ _ _ _ _ _ _ _ _ _ _ w (cut_gives s w hT hs) (cut_gives _ w hT (by omega)) (cut_gives _ w hT (by omega)) (valid_any _ w hT (by omega)) (fun W hW => local_full _ W (hT.later hW) (by omega))

theorem encodeRune_len (z : Int) : (Lib.encodeRune z).length ≤ 4 := by
  unfold Lib.encodeRune Lib.encodeRuneZ
  rw [List.length_map]
  repeat' split
  all_goals simp

theorem mapGoD_len (f : Int → Int) : ∀ (n : Nat) (l : List UInt8), (Lib.mapGoD f n l).length ≤ 4 * n
  | 0, l => by simp [Lib.mapGoD]
  | n + 1, l => by
    unfold Lib.mapGoD
    split
    · simp
    · have ih := mapGoD_len f n (l.drop (Lib.decodeL l).2)
      rw [List.length_append]
      have hh : (if 0 ≤ f (Lib.decodeL l).1 then Lib.encodeRune (f (Lib.decodeL l).1) else []).length ≤ 4 := by
        split
        · exact encodeRune_len _
        · simp
      omega

theorem localS_small (s : ByteArray) : (localS s).1.size ≤ 4 * s.size := by
  have h : (folded s).size ≤ 4 * s.size := by
    show (⟨(Lib.mapD fold s.data.toList).toArray⟩ : ByteArray).size ≤ _
    rw [size_mk, ← size_list s]
    exact mapGoD_len fold _ _
  unfold localS
  split
  · split
    · exact h
    · exact Nat.zero_le _
  · exact Nat.zero_le _

theorem valueS_small {a s lv : ByteArray} {so va : Bool} {le : Int} {v : ByteArray} {K : Nat} (hs : s.size ≤ K) (hl : lv.size ≤ K) (h : valueS a s so va lv le = .ok v) : v.size ≤ K := by
  unfold valueS at h
  repeat' split at h
  all_goals first | (cases h; assumption) | (cases h)

theorem parseF_small {s : ByteArray} {r : Rule} (h : parseF s = .ok r) : r.value.size ≤ 4 * s.size := by
  have h1 := cutB_rest s
  have h2 := cutB_rest (cutB s).2.1
  have h3 := cutB_rest (cutB (cutB s).2.1).2.1
  unfold parseF at h
  generalize hr3 : (cutB (cutB (cutB s).2.1).2.1).2.1 = r3 at *
  have h4 := localS_small r3
  unfold parseS at h
  split at h
  · split at h
    · cases hv : valueS (cutB (cutB (cutB s).2.1).2.1).1 r3 (cutB (cutB (cutB s).2.1).2.1).2.2 (validB r3) (localS r3).1 (localS r3).2 with
      | error c => rw [hv] at h; cases h
      | ok v =>
        rw [hv] at h
        cases h
        exact valueS_small (K := 4 * s.size) (by omega) (by omega) hv
    · cases h
  · cases h

end Go.Proofs.YthbjcihdlhkboaaGreatDoor
