/- A list of texts, cut, in new memory. -/
import Derived.Test.YthbjcihdlhkboaaGreatDoorTx1
import Derived.Test.YthbjcihdlhkboaaGreatDoorSeq2
namespace Go.Proofs.YthbjcihdlhkboaaGreatDoor
set_option linter.unusedSimpArgs false
set_option linter.unusedVariables false
open Go.RowKit Go.Maps Go.Shelf Go.Lib

def cutAll (l : List ByteArray) (most long : Nat) : List ByteArray := (l.take most).map (fun t => cutTo t long)
theorem cutAll_length (l : List ByteArray) (most long : Nat) : (cutAll l most long).length = min most l.length := by simp [cutAll]
theorem cutAll_size {l : List ByteArray} {most long : Nat} {t : ByteArray} (h : t ∈ cutAll l most long) : t.size ≤ long := by
  obtain ⟨u, _, rfl⟩ := List.mem_map.1 h
  exact cutTo_size u long
theorem cutAll_snoc {l : List ByteArray} {k long : Nat} {t : ByteArray} (h : l[k]? = some t) : cutAll l (k + 1) long = cutAll l k long ++ [cutTo t long] := by
  unfold cutAll
  rw [take_snoc h, List.map_append]
  rfl
theorem cutAll_end {l : List ByteArray} {k most long : Nat} (h : k = min most l.length) : cutAll l k long = cutAll l most long := by
  unfold cutAll
  subst h
  congr 1
  rw [← List.take_take, List.take_length]
theorem flatS_one {l : List ByteArray} {u : Value} (h : u ∈ flatS l) : u.oneCell' = true := by
  obtain ⟨t, _, rfl⟩ := List.mem_map.1 h
  rfl
theorem flatS_add (l : List ByteArray) (t : ByteArray) : flatS (l ++ [t]) = flatS l ++ [.string t] := by simp [flatS]
theorem flatS_len (l : List ByteArray) : (flatS l).length = l.length := by simp [flatS]

set_option maxRecDepth 100000 in
set_option maxHeartbeats 4000000 in
theorem texts_any (w : World) (v : Value) (l : List ByteArray) (hg : Strs w v l) (most long : Nat) (hm : most ≤ 1000) (hl : long ≤ 1000) :
    Calls Tryz.prog 23 #[v, .int .i64 most, .int .i64 long] w fun e w' => ∃ A cap, e = .returned (.slice A (cutAll l most long).length cap) ∧ Below w.heap.size w w' ∧
      Seq w' w.heap.size 9 1 (.slice A (cutAll l most long).length cap) (cutAll l most long).length (flatS (cutAll l most long)) := by
  obtain ⟨A, cap, hv⟩ : ∃ A cap, v = .slice A l.length cap := let ⟨⟨A, cap, h, _⟩, _⟩ := hg; ⟨A, cap, h⟩
  subst hv
  have HG := Lib.hid hg
  have HM := Lib.hid (And.intro hm hl)
  clear hg hm hl
  go_enter Tryz.func23, Tryz.ntmps23
  go_wp2_with fail
  go_loopg [7, 8] (min most l.length) (fun g s7 s8 wx => ∃ k : Nat, k ≤ min most l.length ∧ g = min most l.length - k ∧ s8 = .int .i64 k ∧ Below w.heap.size w wx ∧ Seq wx w.heap.size 9 1 s7 k (flatS (cutAll l k long)))
  case atStart => exact ⟨0, by omega, rfl, rfl, Below.refl _ _, Seq.nil _ _ _ _⟩
  case round =>
    obtain ⟨k, hk, hgk, rfl, hbx, hseq⟩ := hrel
    obtain ⟨A7, c7, rfl⟩ := hseq.shape
    have HX := Lib.hid hbx
    have HS := Lib.hid hseq
    have HK := Lib.hid (And.intro hk hgk)
    clear hbx hseq hgk hk
    by_cases hlt : k < min most l.length
    · have t1 : decide ((k : Int) < (l.length : Int)) = true := by simp; omega
      have t3 : decide ((k : Int) < (most : Int)) = true := by simp; omega
      have hkt : k < l.length := by omega
      obtain ⟨t, ht⟩ : ∃ t, l[k]? = some t := ⟨_, List.getElem?_eq_getElem hkt⟩
      obtain ⟨b, off, rfl, y⟩ : ∃ b off, A = some ⟨b, off, none⟩ ∧ wr.cell? ⟨b, off + k, none⟩ = some (.string t) := by
        obtain ⟨⟨A', cap', hv, hf⟩, _⟩ := HG.out
        obtain ⟨b, off, hA, hlb, hc⟩ := hf (by omega)
        obtain ⟨rfl, rfl⟩ : A = A' ∧ cap = cap' := by simpa using hv
        refine ⟨b, off, hA, (HX.out.cell hlb).trans ((hc k hkt).trans ?_)⟩
        rw [List.getD_eq_getElem?_getD, ht]; rfl
      have t2 : (k : Int) < (l.length : Int) := by omega
      have hw : IntKind.i64.wrap ((k : Int) + 1) = (k : Int) + 1 := IntWalk.i64_in _ (by have := HM.out.1; omega)
      have HTT := Lib.hid ht
      clear ht
      obtain ⟨i0, hi, hz0, hz1, hz2⟩ := info_parts strInfo
      go_wp2_with fail
      refine (text_any t long (by have := HM.out.2; omega) _).mono ?_
      rintro e w3 ⟨rfl, hb3⟩
      have HS2 := (HS.out.below hb3 (fun k hk => (HS.out.lt k hk).2)).alloc (.cells #[.string (cutTo t long)] 9)
      have hbb := (HX.out.trans (hb3.mono HX.out.size)).alloc (by have := HX.out.size; have := hb3.size; omega) (.cells #[.string (cutTo t long)] 9)
      have HBB := Lib.hid hbb
      clear hbb
      go_wp2_with (at_builtin; refine wpList_append_seq _ rfl _ _ 32 rfl w.heap.size 9 i0 (.string ⟨#[]⟩) 1 16 Tryz.underlying32 hi hz0 hz1 hz2 rfl _ k (flatS (cutAll l k long)) rfl HS2 ⟨w3.heap.size, 0, none⟩ 1 1 [.string (cutTo t long)] rfl rfl ?c1 ?c2 (by decide) ?c3 ?c4 ?c5 ?_)
      case c1 => intro j u hu; match j, hu with | 0, hu => simpa [go_sem, Addr.add] using hu
      case c2 => intro u hu; simp at hu; subst hu; rfl
      case c3 => have := HM.out.1; unfold maxLen; omega
      case c4 => have := HM.out.1; omega
      case c5 => have := HX.out.size; have := hb3.size; simp; omega
      intro v' w5 hseq' hgrow hat
      have hb5 := HBB.out.grown hgrow HBB.out.size (fun j hj => (HS2.lt j hj).1)
      have HS5 := Lib.hid hseq'
      have HB5 := Lib.hid hb5
      clear HS2 hseq' hgrow hat hb5
      go_wp2_with fail
      go_roundg (min most l.length - (k + 1))
      case measure => have := HK.out.2; omega
      case rel => exact ⟨k + 1, by omega, rfl, by go_num, HB5.out, by rw [cutAll_snoc HTT.out, flatS_add]; exact HS5.out⟩
    · have e : k = min most l.length := by have := HK.out.1; omega
      have el : (cutAll l most long).length = k := by rw [cutAll_length]; omega
      have hfin : Seq wr w.heap.size 9 1 (.slice A7 k c7) k (flatS (cutAll l most long)) := by
        have := HS.out
        rw [cutAll_end e] at this
        exact this
      have HF := Lib.hid hfin
      have HEL := Lib.hid el
      clear hfin el
      by_cases hkt : k < l.length
      · have t1 : decide ((k : Int) < (l.length : Int)) = true := by simpa using hkt
        have t3 : decide ((k : Int) < (most : Int)) = false := by simp; omega
        clear e
        go_wp2_with fail
        go_ret
        exact ⟨A7, c7, by rw [HEL.out]; rfl, HX.out, by rw [HEL.out]; exact HF.out⟩
      · have t1 : decide ((k : Int) < (l.length : Int)) = false := by simpa using hkt
        clear e
        go_wp2_with fail
        go_ret
        exact ⟨A7, c7, by rw [HEL.out]; rfl, HX.out, by rw [HEL.out]; exact HF.out⟩

end Go.Proofs.YthbjcihdlhkboaaGreatDoor
