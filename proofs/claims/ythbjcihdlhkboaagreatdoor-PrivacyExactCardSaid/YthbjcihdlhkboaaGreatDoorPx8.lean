/- Two shelves that hold the same are the same. -/
import Derived.Test.YthbjcihdlhkboaaGreatDoorPx7
namespace Go.Proofs.YthbjcihdlhkboaaGreatDoor
set_option linter.unusedSimpArgs false
set_option linter.unusedVariables false
open Go.RowKit Go.Maps Go.Shelf Go.Lib

theorem TabQ.at {w : World} {B n c k : Nat} {A : Option Addr} {tss : List (List ByteArray)} {ts : List ByteArray} (h : TabQ w B (.slice A n c) n tss) (hk : tss[k]? = some ts) :
    ∃ b off v, A = some ⟨b, off, none⟩ ∧ b < w.heap.size ∧ w.cell? ⟨b, off + k, none⟩ = some v ∧ TxtAt w B v ts ∧ B ≤ b ∧ w.frozen? ⟨b, off + k, none⟩ = false := by
  obtain ⟨es, e1, e2, e3⟩ := h
  have hel : ∃ p, es[k]? = some p ∧ p.1 = ts := by
    rw [← e1, List.getElem?_map] at hk
    cases hp : es[k]? with
    | none => rw [hp] at hk; cases hk
    | some p => rw [hp] at hk; cases hk; exact ⟨p, rfl, rfl⟩
  obtain ⟨p, hp, rfl⟩ := hel
  obtain ⟨b, off, hA, hb, hB, hc, hf⟩ := e2.one (j := k) (v := p.2) (by simp [hp])
  exact ⟨b, off, p.2, hA, hb, hc, e3 p (List.mem_of_getElem? hp), hB, hf⟩
theorem txt_strs {w : World} {B : Nat} {v : Value} {ts : List ByteArray} (h : TxtAt w B v ts) : Strs w v ts := strs_of_seq h (by have := h.len_le; unfold maxLen at this; omega)

abbrev shC (m r : Int) (c : ByteArray) (vn vt : Value) : Obj := .cells #[.int .i64 m, .int .i64 r, .string c, vn, vt] 38

set_option maxRecDepth 100000 in
set_option maxHeartbeats 16000000 in
theorem sameSh_true {w : World} {B1 B2 : Nat} (m r : Int) (c : ByteArray) (vn1 vt1 vn2 vt2 : Value) (ns : List ByteArray) (tss : List (List ByteArray)) (h1 : TxtAt w B1 vn1 ns) (h2 : TxtAt w B2 vn2 ns) (h3 : TabAt w B1 vt1 tss) (h4 : TabAt w B2 vt2 tss) (hl : tss.length ≤ 1000000) :
    Calls Tryz.prog 14 #[.agg #[.int .i64 m, .int .i64 r, .string c, vn1, vt1], .agg #[.int .i64 m, .int .i64 r, .string c, vn2, vt2]] w fun e w' => e = .returned (.bool true) ∧ Below w.heap.size w w' := by
  obtain ⟨An1, cn1, rfl⟩ := h1.shape
  obtain ⟨An2, cn2, rfl⟩ := h2.shape
  obtain ⟨At1, ct1, rfl⟩ := h3.shape
  obtain ⟨At2, ct2, rfl⟩ := h4.shape
  obtain ⟨W2, hW2⟩ : ∃ W, (w.alloc (shC m r c (.slice An1 ns.length cn1) (.slice At1 tss.length ct1))).alloc (shC m r c (.slice An2 ns.length cn2) (.slice At2 tss.length ct2)) = W := ⟨_, rfl⟩
  have hb2 : Below w.heap.size w W2 := by rw [← hW2]; exact ((Below.refl _ _).alloc (Nat.le_refl _) _).alloc (by simp) _
  have hx1 : W2.heap[w.heap.size]? = some (shC m r c (.slice An1 ns.length cn1) (.slice At1 tss.length ct1)) := by rw [← hW2]; exact blk_alloc (blk_new _ _) _
  have hx2 : W2.heap[w.heap.size + 1]? = some (shC m r c (.slice An2 ns.length cn2) (.slice At2 tss.length ct2)) := by rw [← hW2]; exact blk_new' _ (by simp)
  have C := same_any (.slice An1 ns.length cn1) (.slice An2 ns.length cn2) ns ns W2 (txt_strs (h1.below hb2 (fun j hj => (h1.lt j hj).2))) (txt_strs (h2.below hb2 (fun j hj => (h2.lt j hj).2)))
  simp only [decide_true] at C
  have HC := Lib.hid C
  have HW := Lib.hid (And.intro hb2 (And.intro hx1 (And.intro hx2 hW2)))
  have HT := Lib.hid (And.intro h3 h4)
  clear C hb2 hx1 hx2 h1 h2 h3 h4 hW2
  go_enter Tryz.func14, Tryz.ntmps14
  go_wp2_with fail
  rw [HW.out.2.2.2]
  refine HC.out.mono ?_
  rintro e w3 ⟨rfl, hb3⟩
  have hx1 := blk_below HW.out.2.1 hb3 (blk_lt HW.out.2.1)
  have hx2 := blk_below HW.out.2.2.1 hb3 (blk_lt HW.out.2.2.1)
  have hb := HW.out.1.trans (hb3.mono HW.out.1.size)
  obtain ⟨_, _, _, _, y4, _⟩ := shCells hx1
  obtain ⟨_, _, _, _, q4, _⟩ := shCells hx2
  have HX := Lib.hid (And.intro hb (And.intro hx1 hx2))
  clear hx1 hx2 hb hb3 HC HW
  go_wp2_with fail
  clear y4 q4
  go_loopg [5] tss.length (fun g s5 wr => ∃ k : Nat, k ≤ tss.length ∧ g = tss.length - k ∧ s5 = .int .i64 k ∧ Below w3.heap.size w3 wr)
  case atStart => exact ⟨0, Nat.zero_le _, rfl, rfl, Below.refl _ _⟩
  case round =>
    obtain ⟨k, hk, hgk, rfl, hbx⟩ := hrel
    have hx1 := blk_below HX.out.2.1 hbx (blk_lt HX.out.2.1)
    have hx2 := blk_below HX.out.2.2 hbx (blk_lt HX.out.2.2)
    have hbw := HX.out.1.trans (hbx.mono HX.out.1.size)
    obtain ⟨_, _, _, _, y4, _⟩ := shCells hx1
    obtain ⟨_, _, _, _, q4, _⟩ := shCells hx2
    have HG := Lib.hid (And.intro hk (And.intro hgk (And.intro hbx hbw)))
    have z1 := blk_lt hx1
    have z2 := blk_lt hx2
    clear hk hgk hbx hx1 hx2
    by_cases hlt : k < tss.length
    · have t1 : (k : Int) < (tss.length : Int) := by omega
      have t0 : (0 : Int) ≤ (k : Int) := by omega
      have hw : IntKind.i64.wrap ((k : Int) + 1) = (k : Int) + 1 := IntWalk.i64_in _ (by omega)
      obtain ⟨ts, hts⟩ : ∃ ts, tss[k]? = some ts := ⟨_, List.getElem?_eq_getElem hlt⟩
      obtain ⟨b1, o1, v1, rfl, hb1, c1, t1', _⟩ := (HT.out.1.below hbw).at hts
      obtain ⟨b2, o2, v2, rfl, hb2, c2, t2', _⟩ := (HT.out.2.below hbw).at hts
      obtain ⟨A1, e1, rfl⟩ := t1'.shape
      obtain ⟨A2, e2, rfl⟩ := t2'.shape
      have C := same_any _ _ ts ts wr.drew (txt_strs t1'.drew) (txt_strs t2'.drew)
      simp only [decide_true] at C
      have C2 : Calls Tryz.prog 38 #[.slice A1 ts.length e1, .slice A2 ts.length e2] wr.drew fun e w' => e = .returned (.bool true) ∧ Below wr.heap.size wr w' := C.mono fun e w' ⟨h1, h2⟩ => ⟨h1, below_undrew h2⟩
      have HC := Lib.hid C2
      clear C C2 t1' t2' hbw hts
      go_wp2_with fail
      go_region_held3 (fun w' => w'.cell? ⟨w.heap.size, 4, none⟩ = some (.slice (some ⟨b1, o1, none⟩) tss.length ct1) ∧ w'.cell? ⟨w.heap.size + 1, 4, none⟩ = some (.slice (some ⟨b2, o2, none⟩) tss.length ct2) ∧ w'.cell? ⟨b1, o1 + k, none⟩ = some (.slice A1 ts.length e1) ∧ w'.cell? ⟨b2, o2 + k, none⟩ = some (.slice A2 ts.length e2))
        (first
          | exact ⟨y4, q4, c1, c2⟩
          | exact hS)
        ((go_at_call 38; refine HC.out.mono ?_; rintro e w5 ⟨rfl, hb5⟩; have hS : w5.cell? ⟨w.heap.size, 4, none⟩ = some (.slice (some ⟨b1, o1, none⟩) tss.length ct1) ∧ w5.cell? ⟨w.heap.size + 1, 4, none⟩ = some (.slice (some ⟨b2, o2, none⟩) tss.length ct2) ∧ w5.cell? ⟨b1, o1 + k, none⟩ = some (.slice A1 ts.length e1) ∧ w5.cell? ⟨b2, o2 + k, none⟩ = some (.slice A2 ts.length e2) := ⟨(hb5.cell z1).trans y4, (hb5.cell z2).trans q4, (hb5.cell hb1).trans c1, (hb5.cell hb2).trans c2⟩; have HS5 := Lib.hid hb5; clear hb5))
      clear hS
      go_wp2_with fail
      go_roundg (tss.length - (k + 1))
      case measure => have := HG.out.2.1; omega
      case rel => exact ⟨k + 1, by omega, rfl, by go_num, HG.out.2.2.1.trans (HS5.out.mono HG.out.2.2.1.size)⟩
    · have t1 : ¬ (k : Int) < (tss.length : Int) := by omega
      go_wp2_with fail
      go_ret
      exact ⟨rfl, HG.out.2.2.2⟩

end Go.Proofs.YthbjcihdlhkboaaGreatDoor
