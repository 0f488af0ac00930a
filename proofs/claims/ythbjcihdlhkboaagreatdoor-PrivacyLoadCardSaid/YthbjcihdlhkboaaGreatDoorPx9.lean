/- One call of lists, the program's beside the reference's: both answer the same, and both hold the same behind it. -/
import Derived.Test.YthbjcihdlhkboaaGreatDoorPx6
import Derived.Test.YthbjcihdlhkboaaGreatDoorPx4
namespace Go.Proofs.YthbjcihdlhkboaaGreatDoor
set_option linter.unusedSimpArgs false
set_option linter.unusedVariables false
open Go.RowKit Go.Maps Go.Shelf Go.Lib

theorem seq_empty {w : World} {B g : Nat} {e : TypeId} {sz : Nat} {cur : Array Value} (hb : w.heap[g]? = some (.cells cur e (0, 0))) (hB : B ≤ g) : Seq w B e sz (.slice (some ⟨g, 0, none⟩) 0 0) 0 [] :=
  ⟨by simp, .inr ⟨g, 0, 0, cur, rfl, hB, hb, Nat.le_refl _, Nat.zero_le _, by simp, by simp⟩⟩

/-- Told of a round of the reference's Shelf. -/
structure RgSt (w wr wx : World) (b k ct nk : Nat) (At : Option Addr) (S : RL) (nv : Value) (ns : List ByteArray) (tss : List (List ByteArray)) (tx : List ByteArray) (rs : Nat → Option Value) : Prop where
  below : Below w.heap.size w wx
  names : Seq wx w.heap.size 9 1 nv nk (flatS ns)
  box2 : wx.heap[w.heap.size]? = some shZ
  box : ∃ v, wx.heap[b]? = some (.cells #[.int .i64 S.most, .int .i64 S.rules, .string S.chosen, nv, v] 38) ∧ (rs 15 = none → v = .slice At k ct) ∧ (rs 15 ≠ none → rs 13 = some v)
  tab : rs 13 = none → TabQ wx w.heap.size (.slice At k ct) k tss
  emp : ∀ u, rs 2 = some u → rs 11 = none → ∃ g, u = .slice (some ⟨g, 0, none⟩) 0 0 ∧ wr.heap.size ≤ g ∧ Seq wx w.heap.size 9 1 u 0 []
  txt : ∀ u, rs 11 = some u → ∃ A c, u = .slice A tx.length c ∧ TxtAt wx w.heap.size u tx
  one : ∀ u, rs 12 = some u → rs 13 = none → ∃ g u4, u = .slice (some ⟨g, 0, none⟩) 1 1 ∧ rs 11 = some u4 ∧ wx.cell? ⟨g, 0, none⟩ = some u4
  app : ∀ u, rs 13 = some u → ∃ A c, u = .slice A (k + 1) c ∧ TabQ wx w.heap.size u (k + 1) (tss ++ [tx])
  old : rs 13 = none → Below wr.heap.size wr wx

set_option maxRecDepth 100000 in
set_option maxHeartbeats 16000000 in
theorem rshelf17_any {w : World} {B qb : Nat} {S : RL} (h : RfAt w B qb S) (hl : S.rows.length ≤ 1000000) (hok : ∀ r ∈ S.rows, r.texts.length ≤ 1000000) :
    Calls Tryz.prog 16 #[.pointer (some ⟨qb, 0, none⟩)] w fun e w' => ∃ vn vt, e = .returned (.agg #[.int .i64 S.most, .int .i64 S.rules, .string S.chosen, vn, vt]) ∧ TxtAt w' w.heap.size vn (S.rows.map (·.name)) ∧ TabAt w' w.heap.size vt (S.rows.map (·.texts)) ∧ Below w.heap.size w w' := by
  obtain ⟨vn, vt, vr, rows, hR⟩ := h
  obtain ⟨AN, cN, rfl⟩ := hR.names.shape
  obtain ⟨AT, cT, rfl⟩ := hR.texts.shape
  obtain ⟨ns, hns⟩ : ∃ ns, S.rows.map (·.name) = ns := ⟨_, rfl⟩
  obtain ⟨f, hf⟩ : ∃ f : RowV → List ByteArray, (fun r => r.row.texts) = f := ⟨_, rfl⟩
  have hts : S.rows.map (·.texts) = rows.map f := by rw [← hR.eq, ← hf, List.map_map]; rfl
  have hnl : nmL rows = flatS ns := by rw [← hns, ← hR.eq]; unfold nmL flatS; rw [List.map_map, List.map_map]; rfl
  have hlr := hR.len
  have hnsl : ns.length = rows.length := by rw [← hns, List.length_map, hlr]
  rw [hts, hns]
  obtain ⟨r0, r1, r2, r3, r4, _⟩ := cells6r hR.cells
  have hlt := blk_lt hR.cells
  have hne : ¬ qb = w.heap.size := by omega
  have hne2 : ¬ qb = w.heap.size + 1 := by omega
  have hne3 : ¬ qb = w.heap.size + 1 + 1 := by omega
  have HR := Lib.hid hR
  have HK := Lib.hid (And.intro (show rows.length ≤ 1000000 by omega) (show ∀ r ∈ rows, r.row.texts.length ≤ 1000000 from fun r hr => hok r.row (by rw [← hR.eq]; exact List.mem_map.2 ⟨r, hr, rfl⟩)))
  have HF := Lib.hid (And.intro hf (And.intro hnl hnsl))
  obtain ⟨i0, hin, hz0, hz1, hz2⟩ := info_parts strInfo
  have HI0 := Lib.hid (And.intro hin (And.intro hz0 (And.intro hz1 hz2)))
  clear hin hz0 hz1 hz2
  obtain ⟨i1, hin, hz0, hz1, hz2⟩ := info_parts strsInfo
  have HI1 := Lib.hid (And.intro hin (And.intro hz0 (And.intro hz1 hz2)))
  clear hin hz0 hz1 hz2
  clear hR hl hok hts hns hf hnl hlr hnsl
  go_enter Tryz.func16, Tryz.ntmps16
  obtain ⟨W3, hW3⟩ : ∃ W, ((w.alloc shZ).alloc (.cells #[.int .i64 S.most, .int .i64 S.rules, .string S.chosen, .slice AN rows.length cN, .slice AT rows.length cT] 38)).alloc (.cells #[] 9) = W := ⟨_, rfl⟩
  have hb3 : Below w.heap.size w W3 := by rw [← hW3]; exact (((Below.refl _ _).alloc (Nat.le_refl _) _).alloc (by simp) _).alloc (by simp <;> omega) _
  have hx2 : W3.heap[w.heap.size]? = some shZ := by rw [← hW3]; exact blk_alloc (blk_alloc (blk_new _ _) _) _
  have hx3 : W3.heap[w.heap.size + 1]? = some (.cells #[.int .i64 S.most, .int .i64 S.rules, .string S.chosen, .slice AN rows.length cN, .slice AT rows.length cT] 38) := by rw [← hW3]; exact blk_alloc (blk_new' _ (by simp)) _
  have hx4 : W3.heap[w.heap.size + 1 + 1]? = some (.cells #[] 9) := by rw [← hW3]; exact blk_new' _ (by simp)
  have d3 : W3.cell? ⟨qb, 3, none⟩ = some (.slice AN rows.length cN) := (hb3.cell (p := ⟨qb, 3, none⟩) hlt).trans r3
  rw [← hW3] at d3
  have HW := Lib.hid (And.intro hb3 (And.intro hx2 (And.intro hx3 (And.intro hx4 hW3))))
  clear hb3 hx2 hx3 hx4 hW3
  go_wp2_with (at_builtin; refine wpList_append_src _ rfl _ _ 32 rfl w.heap.size 9 i0 (.string ⟨#[]⟩) 1 16 Tryz.underlying32 HI0.out.1 HI0.out.2.1 HI0.out.2.2.1 HI0.out.2.2.2 rfl _ 0 [] rfl (by rw [HW.out.2.2.2.2]; exact seq_empty HW.out.2.2.2.1 (by omega)) AN rows.length cN (nmL rows) rfl (by rw [HW.out.2.2.2.2]; exact (HR.out.names.below HW.out.1 (fun j hj => (HR.out.names.lt j hj).2)).src _ (fun u hu => nm_one hu)) (by have := HK.out.1; unfold maxLen; omega) (by have := HK.out.1; omega) (by rw [HW.out.2.2.2.2]; exact HW.out.1.size) ?_)
  intro v4 w4 hs4 hg4
  try simp only [Nat.zero_add, List.nil_append] at hs4
  obtain ⟨A4, c4, rfl⟩ := hs4.shape
  rw [HW.out.2.2.2.2] at hg4
  have hb4 : Below w.heap.size w w4 := HW.out.1.grown hg4 HW.out.1.size (fun j hj => by simp [Value.ownBlock] at hj; omega)
  have hx2 := blk_grown HW.out.2.1 hg4 (by simp [Value.ownBlock] <;> omega)
  have hx3 := blk_grown HW.out.2.2.1 hg4 (by simp [Value.ownBlock] <;> omega)
  have hx3b := blk_set_same hx3 3 (.slice A4 rows.length c4)
  have hx3c := blk_set_same hx3b 4 (.slice none 0 0)
  have hz3 : w.heap.size + 1 < w4.heap.size := blk_lt hx3
  obtain ⟨y0, y1, y2, y3, y4, z0, z1, z2, z3, z4⟩ := shCells hx3
  have hs4b := (hs4.set_ty hx3 (by decide) 3 (.slice A4 rows.length c4)).set_ty hx3b (by decide) 4 (.slice none 0 0)
  rw [HF.out.2.1] at hs4b
  have hb4b : Below w.heap.size w ((w4.setCell ⟨w.heap.size + 1, 3, none⟩ (.slice A4 rows.length c4)).setCell ⟨w.heap.size + 1, 4, none⟩ (.slice none 0 0)) := (hb4.setCell (by simp) _).setCell (by simp) _
  have hx2b := blk_set_other (blk_set_other hx2 (a := (⟨w.heap.size + 1, 3, none⟩ : Addr)) (.slice A4 rows.length c4) (by simp)) (a := (⟨w.heap.size + 1, 4, none⟩ : Addr)) (.slice none 0 0) (by simp)
  have HX := Lib.hid (And.intro hb4b (And.intro hs4b (And.intro hx3c hx2b)))
  clear hs4 hg4 hb4 hx2 hx3 hx3b hx3c hs4b hb4b hx2b HW
  go_wp2_with (fail)
  clear y0 y1 y2 y3 y4 z0 z1 z2 z3 z4
  go_loopg [4] rows.length (fun g s4 wr => ∃ (k : Nat) (vt : Value), k ≤ rows.length ∧ g = rows.length - k ∧ s4 = .int .i64 k ∧ Below w.heap.size w wr ∧ Seq wr w.heap.size 9 1 (.slice A4 rows.length c4) rows.length (flatS ns) ∧ wr.heap[w.heap.size + 1]? = some (.cells #[.int .i64 S.most, .int .i64 S.rules, .string S.chosen, .slice A4 rows.length c4, vt] 38) ∧ wr.heap[w.heap.size]? = some shZ ∧ TabQ wr w.heap.size vt k ((rows.take k).map f))
  case atStart => exact ⟨0, _, Nat.zero_le _, rfl, rfl, HX.out.1, HX.out.2.1, HX.out.2.2.1, HX.out.2.2.2, TabQ.nil _ _⟩
  case round =>
    clear HX
    obtain ⟨k, vt, hk, hgk, rfl, hbx, hq, hbox, hb2, htab⟩ := hrel
    obtain ⟨At, ct, rfl⟩ := htab.shape
    obtain ⟨y0, y1, y2, y3, y4, _, _, _, _, z4⟩ := shCells hbox
    have d4 : wr.cell? ⟨qb, 4, none⟩ = some (.slice AT rows.length cT) := (hbx.cell (p := ⟨qb, 4, none⟩) hlt).trans r4
    have HX := Lib.hid (And.intro hbx (And.intro hq (And.intro hbox (And.intro hb2 htab))))
    have HG := Lib.hid (And.intro hk hgk)
    have hzb : w.heap.size + 1 < wr.heap.size := blk_lt hbox
    have hzq : qb < wr.heap.size := by omega
    clear hbx hq hbox hb2 htab hgk hk
    by_cases hlt2 : k < rows.length
    · have t1 : (k : Int) < (rows.length : Int) := by omega
      have t0 : (0 : Int) ≤ (k : Int) := by omega
      have hw : IntKind.i64.wrap ((k : Int) + 1) = (k : Int) + 1 := IntWalk.i64_in _ (by have := HK.out.1; omega)
      obtain ⟨r, hr⟩ : ∃ r, rows[k]? = some r := ⟨_, List.getElem?_eq_getElem hlt2⟩
      obtain ⟨bA, oA, rfl, hbA, _, yA, _⟩ := HR.out.texts.one (j := k) (v := r.tv) (by simp [tvL, hr])
      have htx := (HR.out.each r (List.mem_of_getElem? hr)).1
      obtain ⟨AX, cX, hrt⟩ := htx.shape
      rw [hrt] at yA htx
      obtain ⟨tx, hte⟩ : ∃ tx, r.row.texts = tx := ⟨_, rfl⟩
      have hml := HK.out.2 r (List.mem_of_getElem? hr)
      rw [hte] at htx yA hml
      have hfr : f r = tx := by rw [← HF.out.1]; exact hte
      have HT := Lib.hid (And.intro hr (And.intro htx (And.intro hml hfr)))
      clear hr htx hrt hte hml hfr y0 y1 y2 y3 y4 z4
      go_wp2_with fail
      clear d4
      refine Reg.wp_region_puts (A := [[], [0], [], [], [3], [4, 3], [5, 4, 3], [6, 5, 4, 3], [], [7, 6, 5, 4, 3, 8], [9, 7, 6, 5, 4, 3, 8], [2, 10, 9, 7, 6, 5, 4, 3, 8], [11, 2, 10, 9, 7, 6, 5, 4, 3, 8], [1, 0, 12, 11, 2, 10, 9, 7, 6, 5, 4, 3, 8], [0, 1, 2, 3, 4, 5, 6, 7, 8, 9, 10, 11, 12, 13], [14, 0, 1, 2, 3, 4, 5, 6, 7, 8, 9, 10, 11, 12, 13]]) (effs := [2, 11, 12, 13, 15]) (N := 44)
        (val := fun i r => match i with | 0 => .pointer (some ⟨w.heap.size + 1, 4, none⟩) | 1 => .slice At k ct | 3 => .pointer (some ⟨qb, 0, none⟩) | 4 => .pointer (some ⟨qb, 0, none⟩) | 5 => .pointer (some ⟨qb, 0, none⟩) | 6 => .pointer (some ⟨qb, 4, none⟩) | 7 => .slice (some ⟨bA, oA, none⟩) rows.length cT | 8 => .int .i64 k | 9 => .pointer (some ⟨bA, oA + k, none⟩) | 10 => .slice AX tx.length cX | 14 => .pointer (some ⟨w.heap.size + 1, 4, none⟩) | _ => undef)
        (Stage := fun rs wx => RgSt w wr wx (w.heap.size + 1) k ct rows.length At S (.slice A4 rows.length c4) ns ((rows.take k).map f) tx rs)
        (fun rs => [(some 28, .pointer (some ⟨w.heap.size + 1, 4, none⟩)), (some 29, .slice At k ct), (some 30, (rs 2).getD undef), (some 31, .pointer (some ⟨qb, 0, none⟩)), (some 32, .pointer (some ⟨qb, 0, none⟩)), (some 33, .pointer (some ⟨qb, 0, none⟩)), (some 34, .pointer (some ⟨qb, 4, none⟩)), (some 35, .slice (some ⟨bA, oA, none⟩) rows.length cT), (some 36, .int .i64 k), (some 37, .pointer (some ⟨bA, oA + k, none⟩)), (some 38, .slice AX tx.length cX), (some 39, (rs 11).getD undef), (some 40, (rs 12).getD undef), (some 41, (rs 13).getD undef), (some 42, .pointer (some ⟨w.heap.size + 1, 4, none⟩)), (none, (rs 15).getD undef)])
        (by kernel_rfl) (by kernel_rfl) rfl (fun _ => rfl) ?h0 ?hob ?hend
      case hob =>
        intro i hi
        match i, hi with
        | 0, _ => exact Reg.Ob.pure rfl rfl rfl (fun rs => .pointer (some ⟨w.heap.size + 1, 4, none⟩)) (fun _ => rfl) (fun rs wx a hs hd hl hk => by
            have e3 : (a.tmps[3]?).getD undef = .pointer (some ⟨w.heap.size + 1, 0, none⟩) := hk 3 (by decide)
            go_simp)
        | 1, _ => exact Reg.Ob.pure rfl rfl rfl (fun rs => .slice At k ct) (fun _ => rfl) (fun rs wx a hs hd hl hk => by
            have e28 : (a.tmps[28]?).getD undef = .pointer (some ⟨w.heap.size + 1, 4, none⟩) := hk 28 (by decide)
            obtain ⟨v, hbv, hv1, _⟩ := hs.box
            obtain rfl := hv1 (hl 15 (by decide))
            have c : wx.cell? ⟨w.heap.size + 1, 4, none⟩ = some (.slice At k ct) := blk_cell hbv 4
            go_simp)
        | 2, _ =>
          refine Reg.Ob.eff rfl rfl rfl ?_
          intro rs wx a hs hd hn hl hk K hK
          have HS := Lib.hid hs
          have HN := Lib.hid hn
          have HL := Lib.hid hl
          have HKK := Lib.hid hK
          clear hs hn hd hl hk hK
          go_simp
          have hbA : Below wx.heap.size wx (wx.alloc (.cells #[] 9)) := (Below.refl _ _).alloc (Nat.le_refl _) _
          refine HKK.out _ _ ⟨HS.out.below.alloc HS.out.below.size _, HS.out.names.alloc _, blk_alloc HS.out.box2 _, ?_, fun h => (HS.out.tab (by simpa [Reg.upd] using h)).below hbA, fun u hu h => ?_, fun u hu => ?_, fun u hu h => ?_, fun u hu => ?_, fun h => (HS.out.old (by simpa [Reg.upd] using h)).alloc (HS.out.old (by simpa [Reg.upd] using h)).size _⟩
          · obtain ⟨v, e1, e2, e3⟩ := HS.out.box
            exact ⟨v, blk_alloc e1 _, fun h => e2 (by simpa [Reg.upd] using h), fun h => absurd (HL.out 15 (by decide)) (by simpa [Reg.upd] using h)⟩
          · have h2 : some (Value.slice (some ⟨wx.heap.size, 0, none⟩) 0 0) = some u := hu
            cases h2
            exact ⟨_, rfl, (HS.out.old (HL.out 13 (by decide))).size, seq_empty (blk_new _ _) HS.out.below.size⟩
          · have : rs 11 = some u := by simpa [Reg.upd] using hu
            rw [HL.out 11 (by decide)] at this
            cases this
          · have : rs 12 = some u := by simpa [Reg.upd] using hu
            rw [HL.out 12 (by decide)] at this
            cases this
          · have : rs 13 = some u := by simpa [Reg.upd] using hu
            rw [HL.out 13 (by decide)] at this
            cases this
        | 3, _ => exact Reg.Ob.pure rfl rfl rfl (fun rs => .pointer (some ⟨qb, 0, none⟩)) (fun _ => rfl) (fun rs wx a hs hd hl hk => by
            have e0 : (a.tmps[0]?).getD undef = .pointer (some ⟨qb, 0, none⟩) := hk 0 (by decide)
            go_simp)
        | 4, _ => exact Reg.Ob.pure rfl rfl rfl (fun rs => .pointer (some ⟨qb, 0, none⟩)) (fun _ => rfl) (fun rs wx a hs hd hl hk => by
            have e31 : (a.tmps[31]?).getD undef = .pointer (some ⟨qb, 0, none⟩) := hk 31 (by decide)
            go_simp)
        | 5, _ => exact Reg.Ob.pure rfl rfl rfl (fun rs => .pointer (some ⟨qb, 0, none⟩)) (fun _ => rfl) (fun rs wx a hs hd hl hk => by
            have e32 : (a.tmps[32]?).getD undef = .pointer (some ⟨qb, 0, none⟩) := hk 32 (by decide)
            go_simp)
        | 6, _ => exact Reg.Ob.pure rfl rfl rfl (fun rs => .pointer (some ⟨qb, 4, none⟩)) (fun _ => rfl) (fun rs wx a hs hd hl hk => by
            have e33 : (a.tmps[33]?).getD undef = .pointer (some ⟨qb, 0, none⟩) := hk 33 (by decide)
            go_simp)
        | 7, _ => exact Reg.Ob.pure rfl rfl rfl (fun rs => .slice (some ⟨bA, oA, none⟩) rows.length cT) (fun _ => rfl) (fun rs wx a hs hd hl hk => by
            have e34 : (a.tmps[34]?).getD undef = .pointer (some ⟨qb, 4, none⟩) := hk 34 (by decide)
            have c : wx.cell? ⟨qb, 4, none⟩ = some (.slice (some ⟨bA, oA, none⟩) rows.length cT) := (hs.below.cell (p := ⟨qb, 4, none⟩) hlt).trans r4
            go_simp)
        | 8, _ => exact Reg.Ob.pure rfl rfl rfl (fun rs => .int .i64 k) (fun _ => rfl) (fun rs wx a hs hd hl hk => by
            have e4 : (a.tmps[4]?).getD undef = .int .i64 k := hk 4 (by decide)
            go_simp)
        | 9, _ => exact Reg.Ob.pure rfl rfl rfl (fun rs => .pointer (some ⟨bA, oA + k, none⟩)) (fun _ => rfl) (fun rs wx a hs hd hl hk => by
            have e35 : (a.tmps[35]?).getD undef = .slice (some ⟨bA, oA, none⟩) rows.length cT := hk 35 (by decide)
            have e36 : (a.tmps[36]?).getD undef = .int .i64 k := hk 36 (by decide)
            go_simp)
        | 10, _ => exact Reg.Ob.pure rfl rfl rfl (fun rs => .slice AX tx.length cX) (fun _ => rfl) (fun rs wx a hs hd hl hk => by
            have e37 : (a.tmps[37]?).getD undef = .pointer (some ⟨bA, oA + k, none⟩) := hk 37 (by decide)
            have c : wx.cell? ⟨bA, oA + k, none⟩ = some (.slice AX tx.length cX) := (hs.below.cell (p := ⟨bA, oA + k, none⟩) hbA).trans yA
            go_simp)
        | 11, _ =>
          refine Reg.Ob.eff rfl rfl rfl ?_
          intro rs wx a hs hd hn hl hk K hK
          have e30 : (a.tmps[30]?).getD undef = ((rs 2).getD undef) := hk 30 (by decide)
          have e38 : (a.tmps[38]?).getD undef = .slice AX tx.length cX := hk 38 (by decide)
          obtain ⟨u2, hu2⟩ := hd 2 (by decide) (by decide)
          obtain ⟨g2, rfl, hg2, hq2⟩ := hs.emp u2 hu2 hn
          rw [hu2] at e30
          simp only [Option.getD_some] at e30
          have HU := Lib.hid (And.intro hu2 (And.intro hg2 hq2))
          clear hu2 hq2 hg2
          have HS := Lib.hid hs
          have HN := Lib.hid hn
          have HL := Lib.hid hl
          have HKK := Lib.hid hK
          clear hs hn hd hl hK
          obtain ⟨hu2, hg2, hq2⟩ := HU.out
          have hsrc := (HT.out.2.1.below (HS.out.below) (fun j hj => (HT.out.2.1.lt j hj).2))
          refine wp_append_src wx _ _ 32 rfl w.heap.size 9 i0 (.string ⟨#[]⟩) 1 16 Tryz.underlying32 HI0.out.1 HI0.out.2.1 HI0.out.2.2.1 HI0.out.2.2.2 rfl _ 0 [] (by simpa [Act.eval] using e30) hq2 AX tx.length cX (flatS tx) (by simpa [Act.eval] using e38) (hsrc.src _ (fun u hu => flatS_one hu)) (by have := HT.out.2.2.1; unfold maxLen; omega) (by have := HT.out.2.2.1; omega) HS.out.below.size ?_
          intro v7 w7 hs7 hg7
          simp only [Nat.zero_add, List.nil_append] at hs7
          obtain ⟨A7, c7, rfl⟩ := hs7.shape
          have hne : ∀ {j : Nat} {cs : Array Value} {T : TypeId}, wx.heap[j]? = some (.cells cs T) → T ≠ 9 → some j ≠ (Value.slice (some ⟨g2, 0, none⟩) 0 0).ownBlock := fun {j cs T} hj hT e => by
            obtain ⟨cur, hc⟩ := hq2.block j e.symm
            rw [hj] at hc
            simp at hc
            exact hT hc.2
          have hb7 : Below w.heap.size w w7 := HS.out.below.grown hg7 HS.out.below.size (fun j hj => (hq2.lt j hj).1)
          have hold := HS.out.old (HL.out 13 (by decide))
          have hb7r : Below wr.heap.size wr w7 := hold.grown hg7 hold.size (fun j hj => by simp [Value.ownBlock] at hj; omega)
          refine HKK.out _ _ ⟨hb7, ?_, blk_grown HS.out.box2 hg7 (hne HS.out.box2 (by decide)), ?_, fun h => HX.out.2.2.2.2.below hb7r, fun u hu h => (by simp [Reg.upd] at h), fun u hu => ?_, fun u hu h => ?_, fun u hu => ?_, fun _ => hb7r⟩
          · exact HX.out.2.1.below hb7r (fun j hj => (HX.out.2.1.lt j hj).2)
          · obtain ⟨v, e1, e2, e3⟩ := HS.out.box
            exact ⟨v, blk_grown e1 hg7 (hne e1 (by decide)), fun h => e2 (by simpa [Reg.upd] using h), fun h => absurd (HL.out 15 (by decide)) (by simpa [Reg.upd] using h)⟩
          · have h2 : some (Value.slice A7 tx.length c7) = some u := hu
            cases h2
            exact ⟨A7, c7, rfl, hs7⟩
          · have : rs 12 = some u := by simpa [Reg.upd] using hu
            rw [HL.out 12 (by decide)] at this
            cases this
          · have : rs 13 = some u := by simpa [Reg.upd] using hu
            rw [HL.out 13 (by decide)] at this
            cases this
        | 12, _ =>
          refine Reg.Ob.eff rfl rfl rfl ?_
          intro rs wx a hs hd hn hl hk K hK
          have e39 : (a.tmps[39]?).getD undef = ((rs 11).getD undef) := hk 39 (by decide)
          obtain ⟨u4, hu4⟩ := hd 11 (by decide) (by decide)
          obtain ⟨A5, c5, rfl, _⟩ := hs.txt u4 hu4
          rw [hu4] at e39
          simp only [Option.getD_some] at e39
          have HU := Lib.hid hu4
          clear hu4
          have HS := Lib.hid hs
          have HN := Lib.hid hn
          have HL := Lib.hid hl
          have HKK := Lib.hid hK
          clear hs hn hd hl hk hK
          go_simp
          have hbA : Below wx.heap.size wx (wx.alloc (.cells #[.slice A5 tx.length c5] 32)) := (Below.refl _ _).alloc (Nat.le_refl _) _
          refine HKK.out _ _ ⟨HS.out.below.alloc HS.out.below.size _, HS.out.names.alloc _, blk_alloc HS.out.box2 _, ?_, fun h => (HS.out.tab (by simpa [Reg.upd] using h)).below hbA, fun u hu h => ?_, fun u hu => ?_, fun u hu h => ?_, fun u hu => ?_, fun h => (HS.out.old (by simpa [Reg.upd] using h)).alloc (HS.out.old (by simpa [Reg.upd] using h)).size _⟩
          · obtain ⟨v, e1, e2, e3⟩ := HS.out.box
            exact ⟨v, blk_alloc e1 _, fun h => e2 (by simpa [Reg.upd] using h), fun h => absurd (HL.out 15 (by decide)) (by simpa [Reg.upd] using h)⟩
          · obtain ⟨g, e1, e0, e2⟩ := HS.out.emp u (by simpa [Reg.upd] using hu) (by simpa [Reg.upd] using h)
            exact ⟨g, e1, e0, e2.alloc _⟩
          · obtain ⟨A, c, e1, e2⟩ := HS.out.txt u (by simpa [Reg.upd] using hu)
            exact ⟨A, c, e1, e2.alloc _⟩
          · have h2 : some (Value.slice (some ⟨wx.heap.size, 0, none⟩) 1 1) = some u := hu
            cases h2
            exact ⟨_, _, rfl, by simpa [Reg.upd] using HU.out, blk_cell (blk_new _ _) 0⟩
          · have : rs 13 = some u := by simpa [Reg.upd] using hu
            rw [HL.out 13 (by decide)] at this
            cases this
        | 13, _ =>
          refine Reg.Ob.eff rfl rfl rfl ?_
          intro rs wx a hs hd hn hl hk K hK
          have e29 : (a.tmps[29]?).getD undef = .slice At k ct := hk 29 (by decide)
          have e40 : (a.tmps[40]?).getD undef = ((rs 12).getD undef) := hk 40 (by decide)
          obtain ⟨u5, hu5⟩ := hd 12 (by decide) (by decide)
          obtain ⟨g, u4, rfl, hu4, hcg⟩ := hs.one u5 hu5 hn
          obtain ⟨A5, c5, rfl, ht5⟩ := hs.txt u4 hu4
          rw [hu5] at e40
          simp only [Option.getD_some] at e40
          have ht := hs.tab hn
          have HU := Lib.hid (And.intro hu4 (And.intro hu5 (And.intro hcg (And.intro ht5 ht))))
          clear hu4 hu5 hcg ht5 ht
          have HS := Lib.hid hs
          have HN := Lib.hid hn
          have HL := Lib.hid hl
          have HKK := Lib.hid hK
          clear hs hn hd hl hK
          obtain ⟨hu4, hu5, hcg, ht5, ht⟩ := HU.out
          obtain ⟨es, q1, q2, q3⟩ := ht
          refine wp_append_seq wx _ _ 36 rfl w.heap.size 32 i1 (.slice none 0 0) 1 24 Tryz.underlying36 HI1.out.1 HI1.out.2.1 HI1.out.2.2.1 HI1.out.2.2.2 rfl (.slice At k ct) k (es.map (·.2)) (by simpa [Act.eval] using e29) q2 ⟨g, 0, none⟩ 1 1 [.slice A5 tx.length c5] (by simpa [Act.eval] using e40) rfl (by intro j u hu; match j, hu with | 0, hu => simpa [hcg, Addr.add] using hu) (by intro u hu; simp at hu; subst hu; rfl) (by decide) (by have := HK.out.1; unfold maxLen; omega) (by have := HK.out.1; omega) HS.out.below.size ?_
          intro v7 w7 hs7 hg7 _
          obtain ⟨A7, c7, rfl⟩ := hs7.shape
          have hne : ∀ {j : Nat} {cs : Array Value} {T : TypeId}, wx.heap[j]? = some (.cells cs T) → T ≠ 32 → some j ≠ (Value.slice At k ct).ownBlock := fun {j cs T} hj hT e => by
            obtain ⟨cur, hc⟩ := q2.block j e.symm
            rw [hj] at hc
            simp at hc
            exact hT hc.2
          refine HKK.out _ _ ⟨HS.out.below.grown hg7 HS.out.below.size (fun j hj => (q2.lt j hj).1), HS.out.names.grown_ty q2 (by decide) hg7, blk_grown HS.out.box2 hg7 (hne HS.out.box2 (by decide)), ?_, fun h => (by simp [Reg.upd] at h), fun u hu h => ?_, fun u hu => ?_, fun u hu h => (by simp [Reg.upd] at h), fun u hu => ?_, fun h => (by simp [Reg.upd] at h)⟩
          · obtain ⟨v, e1, e2, e3⟩ := HS.out.box
            exact ⟨v, blk_grown e1 hg7 (hne e1 (by decide)), fun h => e2 (by simpa [Reg.upd] using h), fun h => absurd (HL.out 15 (by decide)) (by simpa [Reg.upd] using h)⟩
          · obtain ⟨g, e1, e0, e2⟩ := HS.out.emp u (by simpa [Reg.upd] using hu) (by simpa [Reg.upd] using h)
            exact ⟨g, e1, e0, e2.grown_ty q2 (by decide) hg7⟩
          · obtain ⟨A, c, e1, e2⟩ := HS.out.txt u (by simpa [Reg.upd] using hu)
            exact ⟨A, c, e1, e2.grown_ty q2 (by decide) hg7⟩
          · have h2 : some (Value.slice A7 (k + 1) c7) = some u := hu
            cases h2
            exact ⟨A7, c7, rfl, TabQ.push q1 q2 q3 ht5 hs7 hg7⟩
        | 14, _ => exact Reg.Ob.pure rfl rfl rfl (fun rs => .pointer (some ⟨w.heap.size + 1, 4, none⟩)) (fun _ => rfl) (fun rs wx a hs hd hl hk => by
            have e3 : (a.tmps[3]?).getD undef = .pointer (some ⟨w.heap.size + 1, 0, none⟩) := hk 3 (by decide)
            go_simp)
        | 15, _ =>
          refine Reg.Ob.eff rfl rfl rfl ?_
          intro rs wx a hs hd hn hl hk K hK
          have e42 : (a.tmps[42]?).getD undef = .pointer (some ⟨w.heap.size + 1, 4, none⟩) := hk 42 (by decide)
          have e41 : (a.tmps[41]?).getD undef = ((rs 13).getD undef) := hk 41 (by decide)
          obtain ⟨u6, hu6⟩ := hd 13 (by decide) (by decide)
          obtain ⟨A7, c7, rfl, ht7⟩ := hs.app u6 hu6
          obtain ⟨u11, hu11⟩ := hd 11 (by decide) (by decide)
          rw [hu6] at e41
          simp only [Option.getD_some] at e41
          obtain ⟨v8, hb8, _⟩ := hs.box
          obtain ⟨_, _, _, _, c4, _, _, _, _, z4⟩ := shCells hb8
          have HU := Lib.hid (And.intro hu6 (And.intro ht7 (And.intro hb8 hu11)))
          clear hu6 ht7 hb8 hu11
          have HS := Lib.hid hs
          have HN := Lib.hid hn
          have HL := Lib.hid hl
          have HKK := Lib.hid hK
          clear hs hn hd hl hk hK
          go_simp
          obtain ⟨hu6, ht7, hb8, hu11⟩ := HU.out
          refine HKK.out undef _ ⟨HS.out.below.setCell (by simp) _, HS.out.names.set_ty hb8 (by decide) 4 _, blk_set_other HS.out.box2 _ (by simp), ⟨_, blk_set_same hb8 4 _, fun h => by simp [Reg.upd] at h, fun _ => by simpa [Reg.upd] using hu6⟩, fun h => ?_, fun u hu h => ?_, fun u hu => ?_, fun u hu h => ?_, fun u hu => ?_, fun h => absurd (show rs 13 = none by simpa [Reg.upd] using h) (by rw [hu6]; simp)⟩
          · have : rs 13 = none := by simpa [Reg.upd] using h
            rw [hu6] at this
            cases this
          · have : rs 11 = none := by simpa [Reg.upd] using h
            rw [hu11] at this
            cases this
          · obtain ⟨A, c, e1, e2⟩ := HS.out.txt u (by simpa [Reg.upd] using hu)
            exact ⟨A, c, e1, e2.set_ty hb8 (by decide) 4 _⟩
          · have : rs 13 = none := by simpa [Reg.upd] using h
            rw [hu6] at this
            cases this
          · have : rs 13 = some u := by simpa [Reg.upd] using hu
            rw [hu6] at this
            cases this
            exact ⟨A7, c7, rfl, ht7.set hb8 (by decide) (by decide) 4 _⟩
        | n + 16, h => exact absurd h (by simp <;> omega)
      case h0 =>
        exact ⟨HX.out.1.drew, HX.out.2.1.drew, HX.out.2.2.2.1, ⟨_, HX.out.2.2.1, fun _ => rfl, fun h => absurd rfl h⟩, fun _ => HX.out.2.2.2.2.below (below_drewNs wr 1), fun u hu _ => (by cases hu), fun u hu => (by cases hu), fun u hu _ => (by cases hu), fun u hu => (by cases hu), fun _ => below_drewNs wr 1⟩
      case hend =>
        intro rs wx hs hd
        obtain ⟨u2, hu2⟩ := hd 2 (by decide) (by decide)
        obtain ⟨u6, hu6⟩ := hd 13 (by decide) (by decide)
        obtain ⟨u8, hu8⟩ := hd 15 (by decide) (by decide)
        obtain ⟨u4, hu4⟩ := hd 11 (by decide) (by decide)
        obtain ⟨u5, hu5⟩ := hd 12 (by decide) (by decide)
        obtain ⟨A7, c7, rfl, ht7⟩ := hs.app u6 hu6
        obtain ⟨v8, hb8, _, hv8⟩ := hs.box
        have hv8 := hv8 (by rw [hu8]; simp)
        rw [hu6] at hv8
        cases hv8
        have htk : (rows.take (k + 1)).map f = (rows.take k).map f ++ [tx] := by rw [take_snoc HT.out.1, List.map_append, List.map_cons, List.map_nil, HT.out.2.2.2]
        rw [← htk] at ht7
        have HE := Lib.hid (And.intro hs.below (And.intro hs.names (And.intro hb8 (And.intro hs.box2 ht7))))
        simp only [List.foldl_cons, List.foldl_nil, Act.put, List.setIfInBounds_toArray, List.set_cons_zero, List.set_cons_succ]
        rw [hu2, hu4, hu5, hu6]
        simp only [Option.getD_some]
        clear hs hd hb8 ht7 hu2 hu4 hu5 hu6 hu8 htk
        go_wp2_with fail
        go_roundg (rows.length - (k + 1))
        case measure => have := HG.out.2; omega
        case rel => exact ⟨k + 1, _, by omega, rfl, by go_num, HE.out.1, HE.out.2.1, HE.out.2.2.1, HE.out.2.2.2.1, HE.out.2.2.2.2⟩
    · have e : k = rows.length := by have := HG.out.1; omega
      subst e
      have t1 : ¬ (rows.length : Int) < (rows.length : Int) := by omega
      have hz2 : w.heap.size < wr.heap.size := blk_lt HX.out.2.2.2.1
      have hfin := blk_set5 HX.out.2.2.2.1 (.int .i64 S.most) (.int .i64 S.rules) (.string S.chosen) (.slice A4 rows.length c4) (.slice At rows.length ct)
      obtain ⟨f0, f1, f2, f3, f4, _⟩ := shCells hfin
      obtain ⟨q0, q1, q2, q3, q4, v0, v1, v2, v3, v4⟩ := shCells HX.out.2.2.2.1
      clear hfin
      go_wp2_with fail
      refine bodyPost_ret (v := .agg #[.int .i64 S.most, .int .i64 S.rules, .string S.chosen, .slice A4 rows.length c4, .slice At rows.length ct]) (by simp [results, Tryz.results16, go_sem, f0, f1, f2, f3, f4]) rfl ⟨_, _, rfl, ?_, ?_, ?_⟩
      · have := sh5_seq HX.out.2.1 HX.out.2.2.2.1 (by decide) (.int .i64 S.most) (.int .i64 S.rules) (.string S.chosen) (.slice A4 rows.length c4) (.slice At rows.length ct)
        rw [TxtAt, HF.out.2.2]
        exact this
      · have := HX.out.2.2.2.2.set5 HX.out.2.2.2.1 (.int .i64 S.most) (.int .i64 S.rules) (.string S.chosen) (.slice A4 rows.length c4) (.slice At rows.length ct)
        rw [List.take_length] at this
        rw [TabAt, List.length_map]
        exact this
      · exact sh5_below HX.out.1 (Nat.le_refl _) _ _ _ _ _

end Go.Proofs.YthbjcihdlhkboaaGreatDoor

namespace Go.Proofs.YthbjcihdlhkboaaGreatDoor
set_option linter.unusedSimpArgs false
set_option linter.unusedVariables false
open Go.RowKit Go.Maps Go.Shelf Go.Lib

theorem TabQ.at {w : World} {B n c k : Nat} {A : Option Addr} {tss : List (List ByteArray)} {ts : List ByteArray} (h : TabQ w B (.slice A n c) n tss) (hk : tss[k]? = some ts) :
    ∃ b off v, A = some ⟨b, off, none⟩ ∧ b < w.heap.size ∧ w.cell? ⟨b, off + k, none⟩ = some v ∧ TxtAt w B v ts ∧ B ≤ b ∧ w.frozen? ⟨b, off + k, none⟩ = false := by
  obtain ⟨es, e1, e2, e3⟩ := h
  have hel : ∃ p, es[k]? = some p ∧ p.1 = ts := by
    rw [← e1, List.getElem?_map] at hk
    cases hp : es[k]? with
    | none => rw [hp] at hk; cases hk
    | some p => rw [hp] at hk; cases hk; exact ⟨p, rfl, rfl⟩
  obtain ⟨p, hp, rfl⟩ := hel
  obtain ⟨b, off, hA, hb, hB, hc, hf⟩ := e2.one (j := k) (v := p.2) (by simp [hp])
  exact ⟨b, off, p.2, hA, hb, hc, e3 p (List.mem_of_getElem? hp), hB, hf⟩
theorem txt_strs {w : World} {B : Nat} {v : Value} {ts : List ByteArray} (h : TxtAt w B v ts) : Strs w v ts := strs_of_seq h (by have := h.len_le; unfold maxLen at this; omega)

abbrev shC (m r : Int) (c : ByteArray) (vn vt : Value) : Obj := .cells #[.int .i64 m, .int .i64 r, .string c, vn, vt] 38

set_option maxRecDepth 100000 in
set_option maxHeartbeats 16000000 in
theorem sameSh_true {w : World} {B1 B2 : Nat} (m r : Int) (c : ByteArray) (vn1 vt1 vn2 vt2 : Value) (ns : List ByteArray) (tss : List (List ByteArray)) (h1 : TxtAt w B1 vn1 ns) (h2 : TxtAt w B2 vn2 ns) (h3 : TabAt w B1 vt1 tss) (h4 : TabAt w B2 vt2 tss) (hl : tss.length ≤ 1000000) :
    Calls Tryz.prog 14 #[.agg #[.int .i64 m, .int .i64 r, .string c, vn1, vt1], .agg #[.int .i64 m, .int .i64 r, .string c, vn2, vt2]] w fun e w' => e = .returned (.bool true) ∧ Below w.heap.size w w' := by
  obtain ⟨An1, cn1, rfl⟩ := h1.shape
  obtain ⟨An2, cn2, rfl⟩ := h2.shape
  obtain ⟨At1, ct1, rfl⟩ := h3.shape
  obtain ⟨At2, ct2, rfl⟩ := h4.shape
  obtain ⟨W2, hW2⟩ : ∃ W, (w.alloc (shC m r c (.slice An1 ns.length cn1) (.slice At1 tss.length ct1))).alloc (shC m r c (.slice An2 ns.length cn2) (.slice At2 tss.length ct2)) = W := ⟨_, rfl⟩
  have hb2 : Below w.heap.size w W2 := by rw [← hW2]; exact ((Below.refl _ _).alloc (Nat.le_refl _) _).alloc (by simp) _
  have hx1 : W2.heap[w.heap.size]? = some (shC m r c (.slice An1 ns.length cn1) (.slice At1 tss.length ct1)) := by rw [← hW2]; exact blk_alloc (blk_new _ _) _
  have hx2 : W2.heap[w.heap.size + 1]? = some (shC m r c (.slice An2 ns.length cn2) (.slice At2 tss.length ct2)) := by rw [← hW2]; exact blk_new' _ (by simp)
  have C := same_any (.slice An1 ns.length cn1) (.slice An2 ns.length cn2) ns ns W2 (txt_strs (h1.below hb2 (fun j hj => (h1.lt j hj).2))) (txt_strs (h2.below hb2 (fun j hj => (h2.lt j hj).2)))
  simp only [decide_true] at C
  have HC := Lib.hid C
  have HW := Lib.hid (And.intro hb2 (And.intro hx1 (And.intro hx2 hW2)))
  have HT := Lib.hid (And.intro h3 h4)
  clear C hb2 hx1 hx2 h1 h2 h3 h4 hW2
  go_enter Tryz.func14, Tryz.ntmps14
  go_wp2_with fail
  rw [HW.out.2.2.2]
  refine HC.out.mono ?_
  rintro e w3 ⟨rfl, hb3⟩
  have hx1 := blk_below HW.out.2.1 hb3 (blk_lt HW.out.2.1)
  have hx2 := blk_below HW.out.2.2.1 hb3 (blk_lt HW.out.2.2.1)
  have hb := HW.out.1.trans (hb3.mono HW.out.1.size)
  obtain ⟨_, _, _, _, y4, _⟩ := shCells hx1
  obtain ⟨_, _, _, _, q4, _⟩ := shCells hx2
  have HX := Lib.hid (And.intro hb (And.intro hx1 hx2))
  clear hx1 hx2 hb hb3 HC HW
  go_wp2_with fail
  clear y4 q4
  go_loopg [5] tss.length (fun g s5 wr => ∃ k : Nat, k ≤ tss.length ∧ g = tss.length - k ∧ s5 = .int .i64 k ∧ Below w3.heap.size w3 wr)
  case atStart => exact ⟨0, Nat.zero_le _, rfl, rfl, Below.refl _ _⟩
  case round =>
    obtain ⟨k, hk, hgk, rfl, hbx⟩ := hrel
    have hx1 := blk_below HX.out.2.1 hbx (blk_lt HX.out.2.1)
    have hx2 := blk_below HX.out.2.2 hbx (blk_lt HX.out.2.2)
    have hbw := HX.out.1.trans (hbx.mono HX.out.1.size)
    obtain ⟨_, _, _, _, y4, _⟩ := shCells hx1
    obtain ⟨_, _, _, _, q4, _⟩ := shCells hx2
    have HG := Lib.hid (And.intro hk (And.intro hgk (And.intro hbx hbw)))
    have z1 := blk_lt hx1
    have z2 := blk_lt hx2
    clear hk hgk hbx hx1 hx2
    by_cases hlt : k < tss.length
    · have t1 : (k : Int) < (tss.length : Int) := by omega
      have t0 : (0 : Int) ≤ (k : Int) := by omega
      have hw : IntKind.i64.wrap ((k : Int) + 1) = (k : Int) + 1 := IntWalk.i64_in _ (by omega)
      obtain ⟨ts, hts⟩ : ∃ ts, tss[k]? = some ts := ⟨_, List.getElem?_eq_getElem hlt⟩
      obtain ⟨b1, o1, v1, rfl, hb1, c1, t1', _⟩ := (HT.out.1.below hbw).at hts
      obtain ⟨b2, o2, v2, rfl, hb2, c2, t2', _⟩ := (HT.out.2.below hbw).at hts
      obtain ⟨A1, e1, rfl⟩ := t1'.shape
      obtain ⟨A2, e2, rfl⟩ := t2'.shape
      have C := same_any _ _ ts ts wr.drew (txt_strs t1'.drew) (txt_strs t2'.drew)
      simp only [decide_true] at C
      have C2 : Calls Tryz.prog 38 #[.slice A1 ts.length e1, .slice A2 ts.length e2] wr.drew fun e w' => e = .returned (.bool true) ∧ Below wr.heap.size wr w' := C.mono fun e w' ⟨h1, h2⟩ => ⟨h1, below_undrew h2⟩
      have HC := Lib.hid C2
      clear C C2 t1' t2' hbw hts
      go_wp2_with fail
      go_region_held3 (fun w' => w'.cell? ⟨w.heap.size, 4, none⟩ = some (.slice (some ⟨b1, o1, none⟩) tss.length ct1) ∧ w'.cell? ⟨w.heap.size + 1, 4, none⟩ = some (.slice (some ⟨b2, o2, none⟩) tss.length ct2) ∧ w'.cell? ⟨b1, o1 + k, none⟩ = some (.slice A1 ts.length e1) ∧ w'.cell? ⟨b2, o2 + k, none⟩ = some (.slice A2 ts.length e2))
        (first
          | exact ⟨y4, q4, c1, c2⟩
          | exact hS)
        ((go_at_call 38; refine HC.out.mono ?_; rintro e w5 ⟨rfl, hb5⟩; have hS : w5.cell? ⟨w.heap.size, 4, none⟩ = some (.slice (some ⟨b1, o1, none⟩) tss.length ct1) ∧ w5.cell? ⟨w.heap.size + 1, 4, none⟩ = some (.slice (some ⟨b2, o2, none⟩) tss.length ct2) ∧ w5.cell? ⟨b1, o1 + k, none⟩ = some (.slice A1 ts.length e1) ∧ w5.cell? ⟨b2, o2 + k, none⟩ = some (.slice A2 ts.length e2) := ⟨(hb5.cell z1).trans y4, (hb5.cell z2).trans q4, (hb5.cell hb1).trans c1, (hb5.cell hb2).trans c2⟩; have HS5 := Lib.hid hb5; clear hb5))
      clear hS
      go_wp2_with fail
      go_roundg (tss.length - (k + 1))
      case measure => have := HG.out.2.1; omega
      case rel => exact ⟨k + 1, by omega, rfl, by go_num, HG.out.2.2.1.trans (HS5.out.mono HG.out.2.2.1.size)⟩
    · have t1 : ¬ (k : Int) < (tss.length : Int) := by omega
      go_wp2_with fail
      go_ret
      exact ⟨rfl, HG.out.2.2.2⟩

end Go.Proofs.YthbjcihdlhkboaaGreatDoor

namespace Go.Proofs.YthbjcihdlhkboaaGreatDoor
set_option linter.unusedSimpArgs false
set_option linter.unusedVariables false
open Go.RowKit Go.Maps Go.Shelf Go.Lib

theorem cutTo_id {s : ByteArray} {n : Nat} (h : s.size ≤ n) : cutTo s n = s := by unfold cutTo; rw [if_neg (by omega)]
theorem cutAll_twice (l : List ByteArray) (m n : Nat) : cutAll (cutAll l m n) m n = cutAll l m n := by
  have h1 : (cutAll l m n).take m = cutAll l m n := List.take_of_length_le (by rw [cutAll_length]; omega)
  show ((cutAll l m n).take m).map (fun t => cutTo t n) = _
  rw [h1]
  conv => rhs; rw [← List.map_id (cutAll l m n)]
  exact List.map_congr_left fun t ht => cutTo_id (cutAll_size ht)

/-- What every row of the reference is. -/
def RowsOk (S : RL) : Prop := ∀ r ∈ S.rows, r.name.size ≤ 80 ∧ r.texts.length ≤ 1000 ∧ r.rules.length ≤ 1000 ∧ ∀ q ∈ r.rules, q.value.size ≤ 4000
theorem RowsOk.set {S : RL} (h : RowsOk S) (hs : Srt.Sorted Row.name S.rows) {name : ByteArray} (hn : name.size ≤ 80) {texts : List ByteArray} (hl : texts.length ≤ 1000) (ht : ∀ t ∈ texts, t.size ≤ 1000) : RowsOk (S.set name texts).2 ∧ (S.set name texts).2.rows.length ≤ S.rows.length + 1 := by
  unfold RL.set
  by_cases hw : wordE name (validB name) = 0
  · rw [if_pos hw]
    cases hp : parseAll texts with
    | error e => exact ⟨h, by simp⟩
    | ok rs =>
      obtain ⟨h1, h2⟩ := parseAll_mem hp
      simp only
      split
      · exact ⟨h, by simp⟩
      · refine ⟨fun r hr => ?_, ?_⟩
        · rcases (Srt.mem_put hs).1 hr with h4 | ⟨h4, _⟩
          · simp at h4
            subst h4
            refine ⟨hn, by simp; omega, by simp only; omega, fun q hq => ?_⟩
            obtain ⟨t, ht1, ht2⟩ := h2 q hq
            have := parseF_small ht2
            have := ht t ht1
            omega
          · exact h r h4
        · have := Srt.length_put (key := Row.name) (l := S.rows) (x := name) [(⟨name, rs.map refWriteS, rs⟩ : Row)]
          simp only [List.length_cons, List.length_nil] at this
          show (Srt.put Row.name S.rows name _).length ≤ _
          omega
  · rw [if_neg hw]; exact ⟨h, by simp⟩
theorem RowsOk.drop {S : RL} (h : RowsOk S) (hs : Srt.Sorted Row.name S.rows) (name : ByteArray) : RowsOk (S.drop name).2 ∧ (S.drop name).2.rows.length ≤ S.rows.length + 1 := by
  unfold RL.drop
  split
  · exact ⟨h, by simp⟩
  · split
    · exact ⟨h, by simp⟩
    · refine ⟨fun r hr => ?_, ?_⟩
      · rcases (Srt.mem_put hs).1 hr with h4 | ⟨h4, _⟩
        · simp at h4
        · exact h r h4
      · have := Srt.length_put (key := Row.name) (l := S.rows) (x := name) ([] : List Row)
        simp only [List.length_nil] at this
        show (Srt.put Row.name S.rows name _).length ≤ _
        omega
theorem RowsOk.deflt {S : RL} (h : RowsOk S) (name : ByteArray) : RowsOk (S.deflt name).2 ∧ (S.deflt name).2.rows.length ≤ S.rows.length + 1 := by
  unfold RL.deflt
  split
  · exact ⟨h, by simp⟩
  · exact ⟨h, by simp⟩
theorem Twin.rightL {L : LS} {S : RL} (h : Twin L S) (hr : RowsOk S) : RightL L := fun s rs hg => by
  obtain ⟨r, h1, _, h3⟩ := (h.find s rs).1 hg
  subst h3
  exact ⟨by have := (hr r h1).2.2.1; omega, (h.right r h1).2⟩
theorem Twin.names {L : LS} {S : RL} (h : Twin L S) (hr : RowsOk S) : ∀ s, (L.get s).isSome = true → s.size ≤ maxLen := fun s hs => by
  rw [h.has, Srt.isAt_iff h.sorted] at hs
  obtain ⟨r, h1, rfl⟩ := hs
  have := (hr r h1).1
  unfold maxLen; omega

theorem LAt.refd {w w' : World} {B lb mb n qb : Nat} {D : DataW Value} {L : LS} {S : RL} (h : LAt w B lb mb n D L) (hr : RfAt w B qb S) (hu : Upd w.heap.size (Ks17 w B qb) w w') : LAt w' B lb mb n D L := by
  obtain ⟨vn, vt, vr, rows, hr⟩ := hr
  refine h.upd hu (Nat.le_refl _) fun k hk => ?_
  rcases hk with rfl | ⟨_, cur, hc | hc⟩
  · have := h.cells_ne hr.cells (by decide)
    exact ⟨this.1, this.2, fun cur hc => by rw [hr.cells] at hc; simp at hc⟩
  · have := h.cells_ne hc (by decide)
    exact ⟨this.1, this.2, fun cur hc2 => by rw [hc] at hc2; simp at hc2⟩
  · have := h.cells_ne hc (by decide)
    exact ⟨this.1, this.2, fun cur hc2 => by rw [hc] at hc2; simp at hc2⟩
theorem RfAt.progd {w w' : World} {B lb mb n qb : Nat} {D : DataW Value} {L : LS} {S : RL} (hr : RfAt w B qb S) (h : LAt w B lb mb n D L) (hu : Upd w.heap.size (fun k => k = lb ∨ k = mb) w w') : RfAt w' B qb S := by
  refine hr.upd hu (Nat.le_refl _) fun k cs T hk hc => ?_
  rcases hk with rfl | rfl
  · rw [h.cells] at hc
    simp at hc
    rw [← hc.2]
    decide
  · obtain ⟨es, clock, hb, _⟩ := h.own
    rw [hb] at hc
    cases hc
theorem txt_refd {w w' : World} {B B' qb : Nat} {S : RL} {v : Value} {ts : List ByteArray} (h : TxtAt w B' v ts) (hr : RfAt w B qb S) (hu : Upd w.heap.size (Ks17 w B qb) w w') : TxtAt w' B' v ts := by
  obtain ⟨vn, vt, vr, rows, hr⟩ := hr
  refine Seq.turn h fun k cur hc _ => hu.block k (blk_lt hc) fun hk => ?_
  rcases hk with rfl | ⟨_, cur2, hc2 | hc2⟩
  · rw [hr.cells] at hc; simp at hc
  · rw [hc2] at hc; simp at hc
  · rw [hc2] at hc; simp at hc
theorem box_refd {w w' : World} {B qb b : Nat} {S : RL} {cs : Array Value} {T : TypeId} (h : w.heap[b]? = some (.cells cs T)) (hT : far17 T = true) (hr : RfAt w B qb S) (hu : Upd w.heap.size (Ks17 w B qb) w w') : w'.heap[b]? = some (.cells cs T) := by
  obtain ⟨vn, vt, vr, rows, hr⟩ := hr
  refine blk_upd h hu (blk_lt h) fun hk => ?_
  rcases hk with rfl | ⟨_, cur2, hc2 | hc2⟩
  · rw [hr.cells] at h; simp at h; rw [← h.2] at hT; revert hT; decide
  · rw [hc2] at h; simp at h; rw [← h.2] at hT; revert hT; decide
  · rw [hc2] at h; simp at h; rw [← h.2] at hT; revert hT; decide
theorem below_refd {w0 w w' : World} {B qb : Nat} {S : RL} (h : Below B w0 w) (hr : RfAt w B qb S) (hu : Upd w.heap.size (Ks17 w B qb) w w') (hB : B ≤ w.heap.size) : Below B w0 w' := by
  have := hr.lo
  exact ⟨hu.os.trans h.os, hu.tape.trans h.tape, hu.output.trans h.output, Nat.le_trans h.size hu.size, fun k hk => (hu.block k (by omega) (fun e => by rcases e with rfl | ⟨e, _⟩ <;> omega)).trans (h.block k hk)⟩

/-- One call, and what it is asked with. -/
structure Opv where
  act : Int
  name : ByteArray
  tv : Value
  texts : List ByteArray
  inn : Bool
  contact : ByteArray
  gv : Value
  groups : List ByteArray
  sub : ByteArray
abbrev Opv.cells (o : Opv) : Array Value := #[.int .i64 o.act, .string o.name, o.tv, .bool o.inn, .string o.contact, o.gv, .string o.sub]
theorem cells7 {w : World} {b : Nat} {x0 x1 x2 x3 x4 x5 x6 : Value} {T : TypeId} (h : w.heap[b]? = some (.cells #[x0, x1, x2, x3, x4, x5, x6] T)) : w.cell? ⟨b, 0, none⟩ = some x0 ∧ w.cell? ⟨b, 1, none⟩ = some x1 ∧ w.cell? ⟨b, 2, none⟩ = some x2 ∧ w.cell? ⟨b, 3, none⟩ = some x3 ∧ w.cell? ⟨b, 4, none⟩ = some x4 ∧ w.cell? ⟨b, 5, none⟩ = some x5 ∧ w.cell? ⟨b, 6, none⟩ = some x6 :=
  ⟨blk_cell h 0, blk_cell h 1, blk_cell h 2, blk_cell h 3, blk_cell h 4, blk_cell h 5, blk_cell h 6⟩

/-- The law's memory: the program's lists and the reference's. -/
structure PEx (w wx : World) (lb mb qb : Nat) (L : LS) (S : RL) (k : Nat) : Prop where
  below : Below w.heap.size w wx
  prog : ∃ n D, n ≤ k ∧ LAt wx w.heap.size lb mb n D L
  ref : RfAt wx w.heap.size qb S
  twin : Twin L S
  rows : RowsOk S
  len : S.rows.length ≤ k
theorem PEx.call {w wx w2 : World} {lb mb qb k : Nat} {L : LS} {S : RL} (h : PEx w wx lb mb qb L S k) (hb : Below wx.heap.size wx w2) : PEx w w2 lb mb qb L S k :=
  { h with below := h.below.trans (hb.mono h.below.size), prog := (let ⟨n, D, e, r⟩ := h.prog; ⟨n, D, e, r.below hb⟩), ref := h.ref.below hb }

/-- Between the program's call and the reference's. -/
structure PMid (w wx : World) (lb mb qb ob : Nat) (oc : Array Value) (X : LS) (S : RL) (k : Nat) : Prop where
  below : Below w.heap.size w wx
  prog : ∃ n D, n ≤ k + 1 ∧ LAt wx w.heap.size lb mb n D X
  ref : RfAt wx w.heap.size qb S
  box : wx.heap[ob]? = some (.cells oc 34)
theorem PMid.call {w wx w2 : World} {lb mb qb ob k : Nat} {oc : Array Value} {X : LS} {S : RL} (h : PMid w wx lb mb qb ob oc X S k) (hb : Below wx.heap.size wx w2) : PMid w w2 lb mb qb ob oc X S k :=
  ⟨h.below.trans (hb.mono h.below.size), (let ⟨n, D, e, r⟩ := h.prog; ⟨n, D, e, r.below hb⟩), h.ref.below hb, blk_below h.box hb (blk_lt h.box)⟩
theorem PMid.of {w wx w' : World} {lb mb qb ob k n' : Nat} {D' : DataW Value} {oc : Array Value} {L X : LS} {S : RL} (h : PEx w wx lb mb qb L S k) (hbox : wx.heap[ob]? = some (.cells oc 34)) (hl : LAt w' w.heap.size lb mb n' D' X) (hn : n' ≤ k + 1) (hu : Upd wx.heap.size (fun j => j = lb ∨ j = mb) wx w') : PMid w w' lb mb qb ob oc X S k := by
  obtain ⟨n, D, hnk, r⟩ := h.prog
  have lo := r.lo
  have hlt := r.lt
  refine ⟨⟨hu.os.trans h.below.os, hu.tape.trans h.below.tape, hu.output.trans h.below.output, Nat.le_trans h.below.size hu.size, fun j hj => (hu.block j (by omega) (by rintro (e | e) <;> omega)).trans (h.below.block j hj)⟩, ⟨n', D', hn, hl⟩, h.ref.progd r hu, ?_⟩
  have := r.cells_ne hbox (by decide)
  exact blk_upd hbox hu (blk_lt hbox) (by rintro (e | e); exact this.1 e; exact this.2 e)

section
variable {w wx : World} {lb mb qb ob k : Nat} {oc : Array Value} {L : LS} {S : RL}
theorem set_law (h : PEx w wx lb mb qb L S k) (hbox : wx.heap[ob]? = some (.cells oc 34)) (hT : Tabs wx) (hk : k ≤ 1000) (nm : ByteArray) (hnm : nm.size ≤ 80) (v : Value) (ts : List ByteArray) {B : Nat} (ht : TxtAt wx B v ts) (hl : ts.length ≤ 20) (hz : ∀ t ∈ ts, t.size ≤ 120) :
    Calls Tryz.prog 36 #[.pointer (some ⟨lb, 0, none⟩), .string nm, v] wx fun e w' => e = .returned (.int .i64 (L.set nm ts).1) ∧ PMid w w' lb mb qb ob oc (L.set nm ts).2 S k := by
  obtain ⟨n, D, hnk, r⟩ := h.prog
  refine (set_any r hT nm (by omega) v ts (txt_strs ht) (by omega) (fun t h => by have := hz t h; omega) (by omega) h.below.size).mono ?_
  rintro e w' ⟨rfl, n', D', hn', hl', hg⟩
  exact ⟨rfl, PMid.of h hbox hl' (by omega) (Upd.of_grown hg (.inr rfl) (Nat.le_refl _))⟩
theorem rset_law {X : LS} (h : PMid w wx lb mb qb ob oc X S k) (hr : RowsOk S) (hlen : S.rows.length ≤ k) (hk : k ≤ 1000) (nm : ByteArray) (hnm : nm.size ≤ 80) (v : Value) (ts : List ByteArray) {B : Nat} (ht : TxtAt wx B v ts) (hl : ts.length ≤ 20) (hz : ∀ t ∈ ts, t.size ≤ 120) (htw : Twin X (S.set nm ts).2) (hs : Srt.Sorted Row.name S.rows) :
    Calls Tryz.prog 37 #[.pointer (some ⟨qb, 0, none⟩), .string nm, v] wx fun e w' => e = .returned (.int .i64 (S.set nm ts).1) ∧ PEx w w' lb mb qb X (S.set nm ts).2 (k + 1) ∧ w'.heap[ob]? = some (.cells oc 34) := by
  refine (rset17_any h.ref nm (by omega) v ts (txt_strs ht) (by omega) (fun t h => by have := hz t h; omega) (by omega) h.below.size).mono ?_
  rintro e w' ⟨rfl, hr', hu⟩
  obtain ⟨n, D, hnk, r⟩ := h.prog
  have hro := hr.set hs (name := nm) hnm (texts := ts) (by omega) (fun t h => by have := hz t h; omega)
  exact ⟨rfl, ⟨below_refd h.below h.ref hu h.below.size, ⟨n, D, hnk, r.refd h.ref hu⟩, hr', htw, hro.1, by have := hro.2; omega⟩, box_refd h.box (by decide) h.ref hu⟩
theorem drop_law (h : PEx w wx lb mb qb L S k) (hbox : wx.heap[ob]? = some (.cells oc 34)) (nm : ByteArray) (hnm : nm.size ≤ 80) :
    Calls Tryz.prog 45 #[.pointer (some ⟨lb, 0, none⟩), .string nm] wx fun e w' => e = .returned (.int .i64 (L.drop nm).1) ∧ PMid w w' lb mb qb ob oc (L.drop nm).2 S k := by
  obtain ⟨n, D, hnk, r⟩ := h.prog
  refine (drop17_any r nm (by unfold maxLen; omega)).mono ?_
  rintro e w' ⟨rfl, ⟨D', hl'⟩, hu⟩
  exact ⟨rfl, PMid.of h hbox hl' (by omega) ⟨hu.os, hu.tape, hu.output, hu.size, fun j hj hn => hu.block j hj (fun e => hn (.inr e))⟩⟩
theorem rdrop_law {X : LS} (h : PMid w wx lb mb qb ob oc X S k) (hr : RowsOk S) (hlen : S.rows.length ≤ k) (hk : k ≤ 1000) (nm : ByteArray) (htw : Twin X (S.drop nm).2) (hs : Srt.Sorted Row.name S.rows) :
    Calls Tryz.prog 46 #[.pointer (some ⟨qb, 0, none⟩), .string nm] wx fun e w' => e = .returned (.int .i64 (S.drop nm).1) ∧ PEx w w' lb mb qb X (S.drop nm).2 (k + 1) := by
  refine (rdrop17_any h.ref nm (by omega) h.below.size).mono ?_
  rintro e w' ⟨rfl, hr', hu1⟩
  have hu : Upd wx.heap.size (Ks17 wx w.heap.size qb) wx w' := ⟨hu1.os, hu1.tape, hu1.output, hu1.size, fun j hj hn => hu1.block j hj (fun e => hn (.inl e))⟩
  obtain ⟨n, D, hnk, r⟩ := h.prog
  have hro := hr.drop hs nm
  exact ⟨rfl, below_refd h.below h.ref hu h.below.size, ⟨n, D, hnk, r.refd h.ref hu⟩, hr', htw, hro.1, by have := hro.2; omega⟩
theorem deflt_law (h : PEx w wx lb mb qb L S k) (hbox : wx.heap[ob]? = some (.cells oc 34)) (nm : ByteArray) (hnm : nm.size ≤ 80) :
    Calls Tryz.prog 47 #[.pointer (some ⟨lb, 0, none⟩), .string nm] wx fun e w' => e = .returned (.int .i64 (L.deflt nm).1) ∧ PMid w w' lb mb qb ob oc (L.deflt nm).2 S k := by
  obtain ⟨n, D, hnk, r⟩ := h.prog
  refine (deflt_any r nm (by unfold maxLen; omega)).mono ?_
  rintro e w' ⟨rfl, hl', hu⟩
  exact ⟨rfl, PMid.of h hbox hl' (by omega) ⟨hu.os, hu.tape, hu.output, hu.size, fun j hj hn => hu.block j hj (fun e => hn (.inl e))⟩⟩
theorem rdeflt_law {X : LS} (h : PMid w wx lb mb qb ob oc X S k) (hr : RowsOk S) (hlen : S.rows.length ≤ k) (hk : k ≤ 1000) (nm : ByteArray) (htw : Twin X (S.deflt nm).2) :
    Calls Tryz.prog 48 #[.pointer (some ⟨qb, 0, none⟩), .string nm] wx fun e w' => e = .returned (.int .i64 (S.deflt nm).1) ∧ PEx w w' lb mb qb X (S.deflt nm).2 (k + 1) := by
  refine (rdeflt_any h.ref nm (by omega)).mono ?_
  rintro e w' ⟨rfl, hr', hu1⟩
  have hu : Upd wx.heap.size (Ks17 wx w.heap.size qb) wx w' := ⟨hu1.os, hu1.tape, hu1.output, hu1.size, fun j hj hn => hu1.block j hj (fun e => hn (.inl e))⟩
  obtain ⟨n, D, hnk, r⟩ := h.prog
  have hro := hr.deflt nm
  exact ⟨rfl, below_refd h.below h.ref hu h.below.size, ⟨n, D, hnk, r.refd h.ref hu⟩, hr', htw, hro.1, by have := hro.2; omega⟩
end

/-- What one call can make of the reference's lists. -/
def Way17 (S Y : RL) : Prop := Y = S ∨ (∃ n ts, Y = (S.set n ts).2) ∨ (∃ n, Y = (S.drop n).2) ∨ ∃ n, Y = (S.deflt n).2
def PlPost (w : World) (lb mb qb k : Nat) (S : RL) (e : Ending) (w' : World) : Prop := e = .returned (.bool true) ∧ ∃ L' S', PEx w w' lb mb qb L' S' (k + 1) ∧ Way17 S S'

set_option maxRecDepth 100000 in
set_option maxHeartbeats 16000000 in
theorem plays_any {w wx : World} {lb mb qb k : Nat} {L : LS} {S : RL} (h : PEx w wx lb mb qb L S k) (hT : Tabs wx) (hk : k ≤ 1000) (o : Opv) (hs1 : Strs w o.tv o.texts) (hs2 : Strs w o.gv o.groups) :
    Calls Tryz.prog 13 #[.pointer (some ⟨lb, 0, none⟩), .pointer (some ⟨qb, 0, none⟩), .agg o.cells] wx (PlPost w lb mb qb k S) := by
  obtain ⟨act, name, tv, texts, inn, contact, gv, groups, sub⟩ := o
  obtain ⟨TA, tc, rfl⟩ : ∃ A c, tv = .slice A texts.length c := let ⟨⟨A, cap, h, _⟩, _⟩ := hs1; ⟨A, cap, h⟩
  obtain ⟨GA, gc, rfl⟩ : ∃ A c, gv = .slice A groups.length c := let ⟨⟨A, cap, h, _⟩, _⟩ := hs2; ⟨A, cap, h⟩
  simp only [Opv.cells] at hs1 hs2 ⊢
  obtain ⟨oc, hoc⟩ : ∃ oc : Array Value, oc = #[.int .i64 act, .string name, .slice TA texts.length tc, .bool inn, .string contact, .slice GA groups.length gc, .string sub] := ⟨_, rfl⟩
  obtain ⟨ob, hob⟩ : ∃ ob, wx.heap.size = ob := ⟨_, rfl⟩
  have hbA : Below wx.heap.size wx (wx.alloc (.cells oc 34)) := (Below.refl _ _).alloc (Nat.le_refl _) _
  have hx := h.call hbA
  have hbox : (wx.alloc (.cells oc 34)).heap[ob]? = some (.cells oc 34) := blk_new' _ hob
  have hTx := hT.later hbA
  have hlo : w.heap.size ≤ ob := by rw [← hob]; exact h.below.size
  have C0 := text_any name 80 (by decide) (wx.alloc (.cells oc 34))
  rw [hoc] at hx hbox hTx C0
  have HA := Lib.hid (And.intro hs1 (And.intro hs2 (And.intro hk hlo)))
  have HX := Lib.hid (And.intro hx (And.intro hbox hTx))
  have HC0 := Lib.hid C0
  have hob2 := hob
  clear h hT hs1 hs2 hk hx hbox hTx hbA C0 hoc hlo hob
  go_enter Tryz.func13, Tryz.ntmps13
  go_wp2_with fail
  refine HC0.out.mono ?_
  rintro e w4 ⟨rfl, hb4⟩
  have hm4 := HX.out.1.call hb4
  have hbox4 := blk_below HX.out.2.1 hb4 (blk_lt HX.out.2.1)
  have hT4 := HX.out.2.2.later hb4
  have hob4 : ob < w4.heap.size := blk_lt hbox4
  clear hob2
  obtain ⟨y0, y1, y2, y3, y4, y5, y6⟩ := cells7 hbox4
  have hnm : (cutTo name 80).size ≤ 80 := cutTo_size _ _
  obtain ⟨nm, hnmE⟩ : ∃ nm, cutTo name 80 = nm := ⟨_, rfl⟩
  rw [hnmE] at hnm ⊢
  have HM := Lib.hid (And.intro hm4 (And.intro hbox4 (And.intro hT4 hnm)))
  clear hm4 hbox4 hT4 hb4 HX HC0 hnm hnmE y1
  by_cases a1 : act = 1
  · subst a1
    obtain ⟨ts, hts⟩ : ∃ ts, cutAll texts 20 120 = ts := ⟨_, rfl⟩
    have htl : ts.length ≤ 20 := by rw [← hts, cutAll_length]; omega
    have htz : ∀ t ∈ ts, t.size ≤ 120 := fun t ht => cutAll_size (by rw [hts]; exact ht)
    have hset := HM.out.1.twin.set nm ts
    have t9 : ((L.set nm ts).1 == (S.set nm ts).1) = true := by rw [hset.1]; simp
    have HTX : Hid (∀ W, Below w.heap.size w W → Calls Tryz.prog 23 #[.slice TA texts.length tc, .int .i64 20, .int .i64 120] W fun e w' => ∃ A c, e = .returned (.slice A ts.length c) ∧ Below W.heap.size W w' ∧ TxtAt w' W.heap.size (.slice A ts.length c) ts) := Lib.hid (fun W hW => by
      refine (texts_any W _ texts (HA.out.1.below hW) 20 120 (by decide) (by decide)).mono ?_
      rintro e w' ⟨A, c, rfl, h1, h2⟩
      rw [hts] at h2 ⊢
      exact ⟨A, c, rfl, h1, h2⟩)
    have HZ := Lib.hid (And.intro htl (And.intro htz hset))
    have tok1 : True := trivial
    clear hts htl htz hset y3 y4 y5 y6
    go_wp2_with fail
    clear y0
    go_region_held3 (fun w' => w'.cell? ⟨ob, 2, none⟩ = some (.slice TA texts.length tc))
      (first
        | exact y2
        | exact hS5
        | exact hS6
        | exact hS7
        | exact hS8)
      (first
        | (go_at_call 23; have _t := tok1; refine (HTX.out w4.drew HM.out.1.below.drew).mono ?_; rintro e w5 ⟨A5, c5, rfl, hb5, hq5⟩; have hp5 := HM.out.1.call (below_undrew hb5); have hx5 := blk_below HM.out.2.1 (below_undrew hb5) hob4; have hS5 : w5.cell? ⟨ob, 2, none⟩ = some (.slice TA texts.length tc) := blk_cell hx5 2; have H5 := Lib.hid (And.intro hp5 (And.intro hx5 (And.intro hq5 (HM.out.2.2.1.later (below_undrew hb5))))); clear _t hp5 hx5 hq5 hb5 tok1)
        | (go_at_call 36; refine (set_law H5.out.1 H5.out.2.1 H5.out.2.2.2 HA.out.2.2.1 nm HM.out.2.2.2 _ ts H5.out.2.2.1 HZ.out.1 HZ.out.2.1).mono ?_; rintro e w6 ⟨rfl, hm6⟩; have hS6 : w6.cell? ⟨ob, 2, none⟩ = some (.slice TA texts.length tc) := blk_cell hm6.box 2; have H6 := Lib.hid hm6; clear hm6)
        | (go_at_call 23; refine (HTX.out w6 H6.out.below).mono ?_; rintro e w7 ⟨A7, c7, rfl, hb7, hq7⟩; have hm7 := H6.out.call hb7; have hS7 : w7.cell? ⟨ob, 2, none⟩ = some (.slice TA texts.length tc) := blk_cell hm7.box 2; have H7 := Lib.hid (And.intro hm7 hq7); clear hm7 hq7 hb7)
        | (go_at_call 37; refine (rset_law H7.out.1 HM.out.1.rows HM.out.1.len HA.out.2.2.1 nm HM.out.2.2.2 _ ts H7.out.2 HZ.out.1 HZ.out.2.1 HZ.out.2.2.2 HM.out.1.twin.sorted).mono ?_; rintro e w8 ⟨rfl, hp8, hx8⟩; have hS8 : w8.cell? ⟨ob, 2, none⟩ = some (.slice TA texts.length tc) := blk_cell hx8 2; have H8 := Lib.hid hp8; clear hp8 hx8))
    go_wp2_with fail
    go_ret
    exact ⟨rfl, _, _, H8.out, .inr (.inl ⟨_, _, rfl⟩)⟩
  have a1b : (act == 1) = false := by simpa using a1
  clear a1
  by_cases a2 : act = 2
  · subst a2
    have hset := HM.out.1.twin.drop nm
    have t9 : ((L.drop nm).1 == (S.drop nm).1) = true := by rw [hset.1]; simp
    have HZ := Lib.hid hset
    clear hset y2 y3 y4 y5 y6
    go_wp2_with fail
    clear y0
    refine (drop_law HM.out.1 HM.out.2.1 nm HM.out.2.2.2).mono ?_
    rintro e w5 ⟨rfl, hm5⟩
    have H5 := Lib.hid hm5
    clear hm5
    go_wp2_with fail
    refine (rdrop_law H5.out HM.out.1.rows HM.out.1.len HA.out.2.2.1 nm HZ.out.2 HM.out.1.twin.sorted).mono ?_
    rintro e w6 ⟨rfl, hp6⟩
    have H6 := Lib.hid hp6
    clear hp6
    go_wp2_with fail
    go_ret
    exact ⟨rfl, _, _, H6.out, .inr (.inr (.inl ⟨_, rfl⟩))⟩
  have a2b : (act == 2) = false := by simpa using a2
  clear a2
  by_cases a3 : act = 3
  · subst a3
    have hset := HM.out.1.twin.deflt nm
    have t9 : ((L.deflt nm).1 == (S.deflt nm).1) = true := by rw [hset.1]; simp
    have HZ := Lib.hid hset
    clear hset y2 y3 y4 y5 y6
    go_wp2_with fail
    clear y0
    refine (deflt_law HM.out.1 HM.out.2.1 nm HM.out.2.2.2).mono ?_
    rintro e w5 ⟨rfl, hm5⟩
    have H5 := Lib.hid hm5
    clear hm5
    go_wp2_with fail
    refine (rdeflt_law H5.out HM.out.1.rows HM.out.1.len HA.out.2.2.1 nm HZ.out.2).mono ?_
    rintro e w6 ⟨rfl, hp6⟩
    have H6 := Lib.hid hp6
    clear hp6
    go_wp2_with fail
    go_ret
    exact ⟨rfl, _, _, H6.out, .inr (.inr (.inr ⟨_, rfl⟩))⟩
  have a3b : (act == 3) = false := by simpa using a3
  clear a3
  obtain ⟨gs, hgs⟩ : ∃ gs, cutAll groups 10 80 = gs := ⟨_, rfl⟩
  have hgs2 : cutAll gs 10 80 = gs := by rw [← hgs, cutAll_twice]
  obtain ⟨al, hal⟩ : ∃ al, L.allows nm inn contact gs sub = al := ⟨_, rfl⟩
  have hal2 : S.allows nm inn contact gs sub = al := by rw [← hal, HM.out.1.twin.allows]
  obtain ⟨hx, hhx⟩ : ∃ hx, (L.get nm).isSome = hx := ⟨_, rfl⟩
  have hhx2 : S.is nm = hx := by rw [← hhx, HM.out.1.twin.has]
  have hB0 := HM.out.1.below.size
  have CT1 : Calls Tryz.prog 23 #[.slice GA groups.length gc, .int .i64 10, .int .i64 80] w4 fun e w' => ∃ A c, e = .returned (.slice A gs.length c) ∧ Below w4.heap.size w4 w' ∧ TxtAt w' w4.heap.size (.slice A gs.length c) gs := by
    refine (texts_any w4 _ groups (HA.out.2.1.below HM.out.1.below) 10 80 (by decide) (by decide)).mono ?_
    rintro e w' ⟨A, c, rfl, h1, h2⟩
    rw [hgs] at h2 ⊢
    exact ⟨A, c, rfl, h1, h2⟩
  have HCT1 := Lib.hid CT1
  have HG := Lib.hid hgs2
  have HAL := Lib.hid (And.intro hal (And.intro hal2 (And.intro hhx hhx2)))
  clear hgs hgs2 hal hal2 hhx hhx2 hB0 CT1 y2
  go_wp2_with fail
  clear y0
  refine HCT1.out.mono ?_
  rintro e w5 ⟨A5, c5, rfl, hb5, hq5⟩
  have hp5 := HM.out.1.call hb5
  have hx5 := blk_below HM.out.2.1 hb5 hob4
  have hob5 : ob < w5.heap.size := blk_lt hx5
  obtain ⟨_, _, _, x3, x4, _, x6⟩ := cells7 hx5
  obtain ⟨n, D, hnk, hlat⟩ := hp5.prog
  have hAll : Hid (∀ W, Below w5.heap.size w5 W → ∀ A c B, TxtAt W B (.slice A gs.length c) gs → Calls Tryz.prog 44 #[.pointer (some ⟨lb, 0, none⟩), .string nm, .bool inn, .string contact, .slice A gs.length c, .string sub] W fun e w' => e = .returned (.bool al) ∧ Below W.heap.size W w') := Lib.hid (fun W hW A c B ht => by
    have := allows_any (hlat.below hW) nm inn contact _ gs sub (by have := HM.out.2.2.2; unfold maxLen; omega) (txt_strs ht)
    rwa [HAL.out.1] at this)
  have hRAll : Hid (∀ W, Below w5.heap.size w5 W → ∀ A c B, TxtAt W B (.slice A gs.length c) gs → Calls Tryz.prog 49 #[.pointer (some ⟨qb, 0, none⟩), .string nm, .bool inn, .string contact, .slice A gs.length c, .string sub] W fun e w' => e = .returned (.bool al) ∧ Below W.heap.size W w') := Lib.hid (fun W hW A c B ht => by
    have := rallows_any (hp5.ref.below hW) nm inn contact _ gs sub (txt_strs ht) (by have := HA.out.2.2.1; have := hp5.len; omega) (fun r hr => ⟨by have := (hp5.rows r hr).2.2.1; omega, fun q hq => by have := (hp5.rows r hr).2.2.2 q hq; omega⟩)
    rwa [HAL.out.2.1] at this)
  have hHas : Hid (∀ W, Below w5.heap.size w5 W → Calls Tryz.prog 50 #[.pointer (some ⟨lb, 0, none⟩), .string nm] W fun e w' => e = .returned (.bool hx) ∧ Below W.heap.size W w') := Lib.hid (fun W hW => by
    have := has_any (hlat.below hW) nm (by have := HM.out.2.2.2; unfold maxLen; omega)
    rwa [HAL.out.2.2.1] at this)
  have hRHas : Hid (∀ W, Below w5.heap.size w5 W → Calls Tryz.prog 51 #[.pointer (some ⟨qb, 0, none⟩), .string nm] W fun e w' => e = .returned (.bool hx) ∧ Below W.heap.size W w') := Lib.hid (fun W hW => by
    have := rhas_any (hp5.ref.below hW) nm (by have := HA.out.2.2.1; have := hp5.len; omega)
    rwa [HAL.out.2.2.2] at this)
  have hT2 : Hid (Calls Tryz.prog 23 #[.slice A5 gs.length c5, .int .i64 10, .int .i64 80] w5.drew fun e w' => ∃ A c, e = .returned (.slice A gs.length c) ∧ Below w5.heap.size w5 w' ∧ TxtAt w' w5.heap.size (.slice A gs.length c) gs) := Lib.hid (by
    refine (texts_any w5.drew _ gs (txt_strs hq5.drew) 10 80 (by decide) (by decide)).mono ?_
    rintro e w' ⟨A, c, rfl, h1, h2⟩
    rw [HG.out] at h2 ⊢
    exact ⟨A, c, rfl, below_undrew h1, h2⟩)
  have H5 := Lib.hid (And.intro hp5 (And.intro hx5 hq5))
  clear hp5 hx5 hq5 hb5 HCT1 hlat y3 y4 y5 y6
  go_wp2_with fail
  go_region_held3 (fun w' => w'.cell? ⟨ob, 3, none⟩ = some (.bool inn) ∧ w'.cell? ⟨ob, 4, none⟩ = some (.string contact) ∧ w'.cell? ⟨ob, 6, none⟩ = some (.string sub))
    (first
      | exact ⟨x3, x4, x6⟩
      | exact hS6
      | exact hS7
      | exact hS8
      | exact hS9
      | exact hS10)
    (first
      | (go_at_call 23; refine hT2.out.mono ?_; rintro e w6 ⟨A6, c6, rfl, hb6, hq6⟩; have H6 := Lib.hid hb6; have HQ6 := Lib.hid hq6; have hS6 : w6.cell? ⟨ob, 3, none⟩ = some (.bool inn) ∧ w6.cell? ⟨ob, 4, none⟩ = some (.string contact) ∧ w6.cell? ⟨ob, 6, none⟩ = some (.string sub) := ⟨(H6.out.cell hob5).trans x3, (H6.out.cell hob5).trans x4, (H6.out.cell hob5).trans x6⟩; clear hb6 hq6)
      | (go_at_call 44; refine (hAll.out w6 H6.out _ _ _ HQ6.out).mono ?_; rintro e w7 ⟨rfl, hb7⟩; have H7 := Lib.hid (H6.out.trans (hb7.mono H6.out.size)); have hS7 : w7.cell? ⟨ob, 3, none⟩ = some (.bool inn) ∧ w7.cell? ⟨ob, 4, none⟩ = some (.string contact) ∧ w7.cell? ⟨ob, 6, none⟩ = some (.string sub) := ⟨(H7.out.cell hob5).trans x3, (H7.out.cell hob5).trans x4, (H7.out.cell hob5).trans x6⟩; clear hb7)
      | (go_at_call 49; refine (hRAll.out w7 H7.out A5 c5 _ (H5.out.2.2.below H7.out (fun j hj => (H5.out.2.2.lt j hj).2))).mono ?_; rintro e w8 ⟨rfl, hb8⟩; have H8 := Lib.hid (H7.out.trans (hb8.mono H7.out.size)); have hS8 : w8.cell? ⟨ob, 3, none⟩ = some (.bool inn) ∧ w8.cell? ⟨ob, 4, none⟩ = some (.string contact) ∧ w8.cell? ⟨ob, 6, none⟩ = some (.string sub) := ⟨(H8.out.cell hob5).trans x3, (H8.out.cell hob5).trans x4, (H8.out.cell hob5).trans x6⟩; clear hb8)
      | (go_at_call 50; refine (hHas.out w8 H8.out).mono ?_; rintro e w9 ⟨rfl, hb9⟩; have H9 := Lib.hid (H8.out.trans (hb9.mono H8.out.size)); have hS9 : w9.cell? ⟨ob, 3, none⟩ = some (.bool inn) ∧ w9.cell? ⟨ob, 4, none⟩ = some (.string contact) ∧ w9.cell? ⟨ob, 6, none⟩ = some (.string sub) := ⟨(H9.out.cell hob5).trans x3, (H9.out.cell hob5).trans x4, (H9.out.cell hob5).trans x6⟩; clear hb9)
      | (go_at_call 51; refine (hRHas.out w9 H9.out).mono ?_; rintro e w10 ⟨rfl, hb10⟩; have H10 := Lib.hid (H9.out.trans (hb10.mono H9.out.size)); have hS10 : w10.cell? ⟨ob, 3, none⟩ = some (.bool inn) ∧ w10.cell? ⟨ob, 4, none⟩ = some (.string contact) ∧ w10.cell? ⟨ob, 6, none⟩ = some (.string sub) := ⟨(H10.out.cell hob5).trans x3, (H10.out.cell hob5).trans x4, (H10.out.cell hob5).trans x6⟩; clear hb10))
  go_wp2_with fail
  go_ret
  refine ⟨rfl, L, S, ?_, .inl rfl⟩
  have := H5.out.1.call H10.out
  exact { this with prog := (let ⟨n, D, e, r⟩ := this.prog; ⟨n, D, by omega, r⟩), len := by have := this.len; omega }

end Go.Proofs.YthbjcihdlhkboaaGreatDoor
