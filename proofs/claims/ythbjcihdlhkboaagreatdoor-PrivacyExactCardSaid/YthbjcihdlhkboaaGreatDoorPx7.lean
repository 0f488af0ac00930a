/- How the reference's lists are told. -/
import Derived.Test.YthbjcihdlhkboaaGreatDoorPx6
namespace Go.Proofs.YthbjcihdlhkboaaGreatDoor
set_option linter.unusedSimpArgs false
set_option linter.unusedVariables false
open Go.RowKit Go.Maps Go.Shelf Go.Lib

theorem seq_empty {w : World} {B g : Nat} {e : TypeId} {sz : Nat} {cur : Array Value} (hb : w.heap[g]? = some (.cells cur e (0, 0))) (hB : B ≤ g) : Seq w B e sz (.slice (some ⟨g, 0, none⟩) 0 0) 0 [] :=
  ⟨by simp, .inr ⟨g, 0, 0, cur, rfl, hB, hb, Nat.le_refl _, Nat.zero_le _, by simp, by simp⟩⟩

/-- Told of a round of the reference's Shelf. -/
structure RgSt (w wr wx : World) (b k ct nk : Nat) (At : Option Addr) (S : RL) (nv : Value) (ns : List ByteArray) (tss : List (List ByteArray)) (tx : List ByteArray) (rs : Nat → Option Value) : Prop where
  below : Below w.heap.size w wx
  names : Seq wx w.heap.size 9 1 nv nk (flatS ns)
  box2 : wx.heap[w.heap.size]? = some shZ
  box : ∃ v, wx.heap[b]? = some (.cells #[.int .i64 S.most, .int .i64 S.rules, .string S.chosen, nv, v] 38) ∧ (rs 15 = none → v = .slice At k ct) ∧ (rs 15 ≠ none → rs 13 = some v)
  tab : rs 13 = none → TabQ wx w.heap.size (.slice At k ct) k tss
  emp : ∀ u, rs 2 = some u → rs 11 = none → ∃ g, u = .slice (some ⟨g, 0, none⟩) 0 0 ∧ wr.heap.size ≤ g ∧ Seq wx w.heap.size 9 1 u 0 []
  txt : ∀ u, rs 11 = some u → ∃ A c, u = .slice A tx.length c ∧ TxtAt wx w.heap.size u tx
  one : ∀ u, rs 12 = some u → rs 13 = none → ∃ g u4, u = .slice (some ⟨g, 0, none⟩) 1 1 ∧ rs 11 = some u4 ∧ wx.cell? ⟨g, 0, none⟩ = some u4
  app : ∀ u, rs 13 = some u → ∃ A c, u = .slice A (k + 1) c ∧ TabQ wx w.heap.size u (k + 1) (tss ++ [tx])
  old : rs 13 = none → Below wr.heap.size wr wx

set_option maxRecDepth 100000 in
set_option maxHeartbeats 16000000 in
theorem rshelf17_any {w : World} {B qb : Nat} {S : RL} (h : RfAt w B qb S) (hl : S.rows.length ≤ 1000000) (hok : ∀ r ∈ S.rows, r.texts.length ≤ 1000000) :
    Calls Tryz.prog 16 #[.pointer (some ⟨qb, 0, none⟩)] w fun e w' => ∃ vn vt, e = .returned (.agg #[.int .i64 S.most, .int .i64 S.rules, .string S.chosen, vn, vt]) ∧ TxtAt w' w.heap.size vn (S.rows.map (·.name)) ∧ TabAt w' w.heap.size vt (S.rows.map (·.texts)) ∧ Below w.heap.size w w' := by
  obtain ⟨vn, vt, vr, rows, hR⟩ := h
  obtain ⟨AN, cN, rfl⟩ := hR.names.shape
  obtain ⟨AT, cT, rfl⟩ := hR.texts.shape
  obtain ⟨ns, hns⟩ : ∃ ns, S.rows.map (·.name) = ns := ⟨_, rfl⟩
  obtain ⟨f, hf⟩ : ∃ f : RowV → List ByteArray, (fun r => r.row.texts) = f := ⟨_, rfl⟩
  have hts : S.rows.map (·.texts) = rows.map f := by rw [← hR.eq, ← hf, List.map_map]; rfl
  have hnl : nmL rows = flatS ns := by rw [← hns, ← hR.eq]; unfold nmL flatS; rw [List.map_map, List.map_map]; rfl
  have hlr := hR.len
  have hnsl : ns.length = rows.length := by rw [← hns, List.length_map, hlr]
  rw [hts, hns]
  obtain ⟨r0, r1, r2, r3, r4, _⟩ := cells6r hR.cells
  have hlt := blk_lt hR.cells
  have hne : ¬ qb = w.heap.size := by omega
  have hne2 : ¬ qb = w.heap.size + 1 := by omega
  have hne3 : ¬ qb = w.heap.size + 1 + 1 := by omega
  have HR := Lib.hid hR
  have HK := Lib.hid (And.intro (show rows.length ≤ 1000000 by omega) (show ∀ r ∈ rows, r.row.texts.length ≤ 1000000 from fun r hr => hok r.row (by rw [← hR.eq]; exact List.mem_map.2 ⟨r, hr, rfl⟩)))
  have HF := Lib.hid (And.intro hf (And.intro hnl hnsl))
  obtain ⟨i0, hin, hz0, hz1, hz2⟩ := info_parts strInfo
  have HI0 := Lib.hid (And.intro hin (And.intro hz0 (And.intro hz1 hz2)))
  clear hin hz0 hz1 hz2
  obtain ⟨i1, hin, hz0, hz1, hz2⟩ := info_parts strsInfo
  have HI1 := Lib.hid (And.intro hin (And.intro hz0 (And.intro hz1 hz2)))
  clear hin hz0 hz1 hz2
  clear hR hl hok hts hns hf hnl hlr hnsl
  go_enter Tryz.func16, Tryz.ntmps16
  obtain ⟨W3, hW3⟩ : ∃ W, ((w.alloc shZ).alloc (.cells #[.int .i64 S.most, .int .i64 S.rules, .string S.chosen, .slice AN rows.length cN, .slice AT rows.length cT] 38)).alloc (.cells #[] 9) = W := ⟨_, rfl⟩
  have hb3 : Below w.heap.size w W3 := by rw [← hW3]; exact (((Below.refl _ _).alloc (Nat.le_refl _) _).alloc (by simp) _).alloc (by simp <;> omega) _
  have hx2 : W3.heap[w.heap.size]? = some shZ := by rw [← hW3]; exact blk_alloc (blk_alloc (blk_new _ _) _) _
  have hx3 : W3.heap[w.heap.size + 1]? = some (.cells #[.int .i64 S.most, .int .i64 S.rules, .string S.chosen, .slice AN rows.length cN, .slice AT rows.length cT] 38) := by rw [← hW3]; exact blk_alloc (blk_new' _ (by simp)) _
  have hx4 : W3.heap[w.heap.size + 1 + 1]? = some (.cells #[] 9) := by rw [← hW3]; exact blk_new' _ (by simp)
  have d3 : W3.cell? ⟨qb, 3, none⟩ = some (.slice AN rows.length cN) := (hb3.cell (p := ⟨qb, 3, none⟩) hlt).trans r3
  rw [← hW3] at d3
  have HW := Lib.hid (And.intro hb3 (And.intro hx2 (And.intro hx3 (And.intro hx4 hW3))))
  clear hb3 hx2 hx3 hx4 hW3
  go_wp2_with (at_builtin; refine wpList_append_src _ rfl _ _ 32 rfl w.heap.size 9 i0 (.string ⟨#[]⟩) 1 16 Tryz.underlying32 HI0.out.1 HI0.out.2.1 HI0.out.2.2.1 HI0.out.2.2.2 rfl _ 0 [] rfl (by rw [HW.out.2.2.2.2]; exact seq_empty HW.out.2.2.2.1 (by omega)) AN rows.length cN (nmL rows) rfl (by rw [HW.out.2.2.2.2]; exact (HR.out.names.below HW.out.1 (fun j hj => (HR.out.names.lt j hj).2)).src _ (fun u hu => nm_one hu)) (by have := HK.out.1; unfold maxLen; omega) (by have := HK.out.1; omega) (by rw [HW.out.2.2.2.2]; exact HW.out.1.size) ?_)
  intro v4 w4 hs4 hg4
  try simp only [Nat.zero_add, List.nil_append] at hs4
  obtain ⟨A4, c4, rfl⟩ := hs4.shape
  rw [HW.out.2.2.2.2] at hg4
  have hb4 : Below w.heap.size w w4 := HW.out.1.grown hg4 HW.out.1.size (fun j hj => by simp [Value.ownBlock] at hj; omega)
  have hx2 := blk_grown HW.out.2.1 hg4 (by simp [Value.ownBlock] <;> omega)
  have hx3 := blk_grown HW.out.2.2.1 hg4 (by simp [Value.ownBlock] <;> omega)
  have hx3b := blk_set_same hx3 3 (.slice A4 rows.length c4)
  have hx3c := blk_set_same hx3b 4 (.slice none 0 0)
  have hz3 : w.heap.size + 1 < w4.heap.size := blk_lt hx3
  obtain ⟨y0, y1, y2, y3, y4, z0, z1, z2, z3, z4⟩ := shCells hx3
  have hs4b := (hs4.set_ty hx3 (by decide) 3 (.slice A4 rows.length c4)).set_ty hx3b (by decide) 4 (.slice none 0 0)
  rw [HF.out.2.1] at hs4b
  have hb4b : Below w.heap.size w ((w4.setCell ⟨w.heap.size + 1, 3, none⟩ (.slice A4 rows.length c4)).setCell ⟨w.heap.size + 1, 4, none⟩ (.slice none 0 0)) := (hb4.setCell (by simp) _).setCell (by simp) _
  have hx2b := blk_set_other (blk_set_other hx2 (a := (⟨w.heap.size + 1, 3, none⟩ : Addr)) (.slice A4 rows.length c4) (by simp)) (a := (⟨w.heap.size + 1, 4, none⟩ : Addr)) (.slice none 0 0) (by simp)
  have HX := Lib.hid (And.intro hb4b (And.intro hs4b (And.intro hx3c hx2b)))
  clear hs4 hg4 hb4 hx2 hx3 hx3b hx3c hs4b hb4b hx2b HW
  go_wp2_with (fail)
  clear y0 y1 y2 y3 y4 z0 z1 z2 z3 z4
  go_loopg [4] rows.length (fun g s4 wr => ∃ (k : Nat) (vt : Value), k ≤ rows.length ∧ g = rows.length - k ∧ s4 = .int .i64 k ∧ Below w.heap.size w wr ∧ Seq wr w.heap.size 9 1 (.slice A4 rows.length c4) rows.length (flatS ns) ∧ wr.heap[w.heap.size + 1]? = some (.cells #[.int .i64 S.most, .int .i64 S.rules, .string S.chosen, .slice A4 rows.length c4, vt] 38) ∧ wr.heap[w.heap.size]? = some shZ ∧ TabQ wr w.heap.size vt k ((rows.take k).map f))
  case atStart => exact ⟨0, _, Nat.zero_le _, rfl, rfl, HX.out.1, HX.out.2.1, HX.out.2.2.1, HX.out.2.2.2, TabQ.nil _ _⟩
  case round =>
    clear HX
    obtain ⟨k, vt, hk, hgk, rfl, hbx, hq, hbox, hb2, htab⟩ := hrel
    obtain ⟨At, ct, rfl⟩ := htab.shape
    obtain ⟨y0, y1, y2, y3, y4, _, _, _, _, z4⟩ := shCells hbox
    have d4 : wr.cell? ⟨qb, 4, none⟩ = some (.slice AT rows.length cT) := (hbx.cell (p := ⟨qb, 4, none⟩) hlt).trans r4
    have HX := Lib.hid (And.intro hbx (And.intro hq (And.intro hbox (And.intro hb2 htab))))
    have HG := Lib.hid (And.intro hk hgk)
    have hzb : w.heap.size + 1 < wr.heap.size := blk_lt hbox
    have hzq : qb < wr.heap.size := by omega
    clear hbx hq hbox hb2 htab hgk hk
    by_cases hlt2 : k < rows.length
    · have t1 : (k : Int) < (rows.length : Int) := by omega
      have t0 : (0 : Int) ≤ (k : Int) := by omega
      have hw : IntKind.i64.wrap ((k : Int) + 1) = (k : Int) + 1 := IntWalk.i64_in _ (by have := HK.out.1; omega)
      obtain ⟨r, hr⟩ : ∃ r, rows[k]? = some r := ⟨_, List.getElem?_eq_getElem hlt2⟩
      obtain ⟨bA, oA, rfl, hbA, _, yA, _⟩ := HR.out.texts.one (j := k) (v := r.tv) (by simp [tvL, hr])
      have htx := (HR.out.each r (List.mem_of_getElem? hr)).1
      obtain ⟨AX, cX, hrt⟩ := htx.shape
      rw [hrt] at yA htx
      obtain ⟨tx, hte⟩ : ∃ tx, r.row.texts = tx := ⟨_, rfl⟩
      have hml := HK.out.2 r (List.mem_of_getElem? hr)
      rw [hte] at htx yA hml
      have hfr : f r = tx := by rw [← HF.out.1]; exact hte
      have HT := Lib.hid (And.intro hr (And.intro htx (And.intro hml hfr)))
      clear hr htx hrt hte hml hfr y0 y1 y2 y3 y4 z4
      go_wp2_with fail
      clear d4
      refine Reg.wp_region_puts (A := [[], [0], [], [], [3], [4, 3], [5, 4, 3], [6, 5, 4, 3], [], [7, 6, 5, 4, 3, 8], [9, 7, 6, 5, 4, 3, 8], [2, 10, 9, 7, 6, 5, 4, 3, 8], [11, 2, 10, 9, 7, 6, 5, 4, 3, 8], [1, 0, 12, 11, 2, 10, 9, 7, 6, 5, 4, 3, 8], [0, 1, 2, 3, 4, 5, 6, 7, 8, 9, 10, 11, 12, 13], [14, 0, 1, 2, 3, 4, 5, 6, 7, 8, 9, 10, 11, 12, 13]]) (effs := [2, 11, 12, 13, 15]) (N := 44)
        (val := fun i r => match i with | 0 => .pointer (some ⟨w.heap.size + 1, 4, none⟩) | 1 => .slice At k ct | 3 => .pointer (some ⟨qb, 0, none⟩) | 4 => .pointer (some ⟨qb, 0, none⟩) | 5 => .pointer (some ⟨qb, 0, none⟩) | 6 => .pointer (some ⟨qb, 4, none⟩) | 7 => .slice (some ⟨bA, oA, none⟩) rows.length cT | 8 => .int .i64 k | 9 => .pointer (some ⟨bA, oA + k, none⟩) | 10 => .slice AX tx.length cX | 14 => .pointer (some ⟨w.heap.size + 1, 4, none⟩) | _ => undef)
        (Stage := fun rs wx => RgSt w wr wx (w.heap.size + 1) k ct rows.length At S (.slice A4 rows.length c4) ns ((rows.take k).map f) tx rs)
        (fun rs => [(some 28, .pointer (some ⟨w.heap.size + 1, 4, none⟩)), (some 29, .slice At k ct), (some 30, (rs 2).getD undef), (some 31, .pointer (some ⟨qb, 0, none⟩)), (some 32, .pointer (some ⟨qb, 0, none⟩)), (some 33, .pointer (some ⟨qb, 0, none⟩)), (some 34, .pointer (some ⟨qb, 4, none⟩)), (some 35, .slice (some ⟨bA, oA, none⟩) rows.length cT), (some 36, .int .i64 k), (some 37, .pointer (some ⟨bA, oA + k, none⟩)), (some 38, .slice AX tx.length cX), (some 39, (rs 11).getD undef), (some 40, (rs 12).getD undef), (some 41, (rs 13).getD undef), (some 42, .pointer (some ⟨w.heap.size + 1, 4, none⟩)), (none, (rs 15).getD undef)])
        (by kernel_rfl) (by kernel_rfl) rfl (fun _ => rfl) ?h0 ?hob ?hend
      case hob =>
        intro i hi
        match i, hi with
        | 0, _ => exact Reg.Ob.pure rfl rfl rfl (fun rs => .pointer (some ⟨w.heap.size + 1, 4, none⟩)) (fun _ => rfl) (fun rs wx a hs hd hl hk => by
            have e3 : (a.tmps[3]?).getD undef = .pointer (some ⟨w.heap.size + 1, 0, none⟩) := hk 3 (by decide)
            go_simp)
        | 1, _ => exact Reg.Ob.pure rfl rfl rfl (fun rs => .slice At k ct) (fun _ => rfl) (fun rs wx a hs hd hl hk => by
            have e28 : (a.tmps[28]?).getD undef = .pointer (some ⟨w.heap.size + 1, 4, none⟩) := hk 28 (by decide)
            obtain ⟨v, hbv, hv1, _⟩ := hs.box
            obtain rfl := hv1 (hl 15 (by decide))
            have c : wx.cell? ⟨w.heap.size + 1, 4, none⟩ = some (.slice At k ct) := blk_cell hbv 4
            go_simp)
        | 2, _ =>
          refine Reg.Ob.eff rfl rfl rfl ?_
          intro rs wx a hs hd hn hl hk K hK
          have HS := Lib.hid hs
          have HN := Lib.hid hn
          have HL := Lib.hid hl
          have HKK := Lib.hid hK
          clear hs hn hd hl hk hK
          go_simp
          have hbA : Below wx.heap.size wx (wx.alloc (.cells #[] 9)) := (Below.refl _ _).alloc (Nat.le_refl _) _
          refine HKK.out _ _ ⟨HS.out.below.alloc HS.out.below.size _, HS.out.names.alloc _, blk_alloc HS.out.box2 _, ?_, fun h => (HS.out.tab (by simpa [Reg.upd] using h)).below hbA, fun u hu h => ?_, fun u hu => ?_, fun u hu h => ?_, fun u hu => ?_, fun h => (HS.out.old (by simpa [Reg.upd] using h)).alloc (HS.out.old (by simpa [Reg.upd] using h)).size _⟩
          · obtain ⟨v, e1, e2, e3⟩ := HS.out.box
            exact ⟨v, blk_alloc e1 _, fun h => e2 (by simpa [Reg.upd] using h), fun h => absurd (HL.out 15 (by decide)) (by simpa [Reg.upd] using h)⟩
          · have h2 : some (Value.slice (some ⟨wx.heap.size, 0, none⟩) 0 0) = some u := hu
            cases h2
            exact ⟨_, rfl, (HS.out.old (HL.out 13 (by decide))).size, seq_empty (blk_new _ _) HS.out.below.size⟩
          · have : rs 11 = some u := by simpa [Reg.upd] using hu
            rw [HL.out 11 (by decide)] at this
            cases this
          · have : rs 12 = some u := by simpa [Reg.upd] using hu
            rw [HL.out 12 (by decide)] at this
            cases this
          · have : rs 13 = some u := by simpa [Reg.upd] using hu
            rw [HL.out 13 (by decide)] at this
            cases this
        | 3, _ => exact Reg.Ob.pure rfl rfl rfl (fun rs => .pointer (some ⟨qb, 0, none⟩)) (fun _ => rfl) (fun rs wx a hs hd hl hk => by
            have e0 : (a.tmps[0]?).getD undef = .pointer (some ⟨qb, 0, none⟩) := hk 0 (by decide)
            go_simp)
        | 4, _ => exact Reg.Ob.pure rfl rfl rfl (fun rs => .pointer (some ⟨qb, 0, none⟩)) (fun _ => rfl) (fun rs wx a hs hd hl hk => by
            have e31 : (a.tmps[31]?).getD undef = .pointer (some ⟨qb, 0, none⟩) := hk 31 (by decide)
            go_simp)
        | 5, _ => exact Reg.Ob.pure rfl rfl rfl (fun rs => .pointer (some ⟨qb, 0, none⟩)) (fun _ => rfl) (fun rs wx a hs hd hl hk => by
            have e32 : (a.tmps[32]?).getD undef = .pointer (some ⟨qb, 0, none⟩) := hk 32 (by decide)
            go_simp)
        | 6, _ => exact Reg.Ob.pure rfl rfl rfl (fun rs => .pointer (some ⟨qb, 4, none⟩)) (fun _ => rfl) (fun rs wx a hs hd hl hk => by
            have e33 : (a.tmps[33]?).getD undef = .pointer (some ⟨qb, 0, none⟩) := hk 33 (by decide)
            go_simp)
        | 7, _ => exact Reg.Ob.pure rfl rfl rfl (fun rs => .slice (some ⟨bA, oA, none⟩) rows.length cT) (fun _ => rfl) (fun rs wx a hs hd hl hk => by
            have e34 : (a.tmps[34]?).getD undef = .pointer (some ⟨qb, 4, none⟩) := hk 34 (by decide)
            have c : wx.cell? ⟨qb, 4, none⟩ = some (.slice (some ⟨bA, oA, none⟩) rows.length cT) := (hs.below.cell (p := ⟨qb, 4, none⟩) hlt).trans r4
            go_simp)
        | 8, _ => exact Reg.Ob.pure rfl rfl rfl (fun rs => .int .i64 k) (fun _ => rfl) (fun rs wx a hs hd hl hk => by
            have e4 : (a.tmps[4]?).getD undef = .int .i64 k := hk 4 (by decide)
            go_simp)
        | 9, _ => exact Reg.Ob.pure rfl rfl rfl (fun rs => .pointer (some ⟨bA, oA + k, none⟩)) (fun _ => rfl) (fun rs wx a hs hd hl hk => by
            have e35 : (a.tmps[35]?).getD undef = .slice (some ⟨bA, oA, none⟩) rows.length cT := hk 35 (by decide)
            have e36 : (a.tmps[36]?).getD undef = .int .i64 k := hk 36 (by decide)
            go_simp)
        | 10, _ => exact Reg.Ob.pure rfl rfl rfl (fun rs => .slice AX tx.length cX) (fun _ => rfl) (fun rs wx a hs hd hl hk => by
            have e37 : (a.tmps[37]?).getD undef = .pointer (some ⟨bA, oA + k, none⟩) := hk 37 (by decide)
            have c : wx.cell? ⟨bA, oA + k, none⟩ = some (.slice AX tx.length cX) := (hs.below.cell (p := ⟨bA, oA + k, none⟩) hbA).trans yA
            go_simp)
        | 11, _ =>
          refine Reg.Ob.eff rfl rfl rfl ?_
          intro rs wx a hs hd hn hl hk K hK
          have e30 : (a.tmps[30]?).getD undef = ((rs 2).getD undef) := hk 30 (by decide)
          have e38 : (a.tmps[38]?).getD undef = .slice AX tx.length cX := hk 38 (by decide)
          obtain ⟨u2, hu2⟩ := hd 2 (by decide) (by decide)
          obtain ⟨g2, rfl, hg2, hq2⟩ := hs.emp u2 hu2 hn
          rw [hu2] at e30
          simp only [Option.getD_some] at e30
          have HU := Lib.hid (And.intro hu2 (And.intro hg2 hq2))
          clear hu2 hq2 hg2
          have HS := Lib.hid hs
          have HN := Lib.hid hn
          have HL := Lib.hid hl
          have HKK := Lib.hid hK
          clear hs hn hd hl hK
          obtain ⟨hu2, hg2, hq2⟩ := HU.out
          have hsrc := (HT.out.2.1.below (HS.out.below) (fun j hj => (HT.out.2.1.lt j hj).2))
          refine wp_append_src wx _ _ 32 rfl w.heap.size 9 i0 (.string ⟨#[]⟩) 1 16 Tryz.underlying32 HI0.out.1 HI0.out.2.1 HI0.out.2.2.1 HI0.out.2.2.2 rfl _ 0 [] (by simpa [Act.eval] using e30) hq2 AX tx.length cX (flatS tx) (by simpa [Act.eval] using e38) (hsrc.src _ (fun u hu => flatS_one hu)) (by have := HT.out.2.2.1; unfold maxLen; omega) (by have := HT.out.2.2.1; omega) HS.out.below.size ?_
          intro v7 w7 hs7 hg7
          simp only [Nat.zero_add, List.nil_append] at hs7
          obtain ⟨A7, c7, rfl⟩ := hs7.shape
          have hne : ∀ {j : Nat} {cs : Array Value} {T : TypeId}, wx.heap[j]? = some (.cells cs T) → T ≠ 9 → some j ≠ (Value.slice (some ⟨g2, 0, none⟩) 0 0).ownBlock := fun {j cs T} hj hT e => by
            obtain ⟨cur, hc⟩ := hq2.block j e.symm
            rw [hj] at hc
            simp at hc
            exact hT hc.2
          have hb7 : Below w.heap.size w w7 := HS.out.below.grown hg7 HS.out.below.size (fun j hj => (hq2.lt j hj).1)
          have hold := HS.out.old (HL.out 13 (by decide))
          have hb7r : Below wr.heap.size wr w7 := hold.grown hg7 hold.size (fun j hj => by simp [Value.ownBlock] at hj; omega)
          refine HKK.out _ _ ⟨hb7, ?_, blk_grown HS.out.box2 hg7 (hne HS.out.box2 (by decide)), ?_, fun h => HX.out.2.2.2.2.below hb7r, fun u hu h => (by simp [Reg.upd] at h), fun u hu => ?_, fun u hu h => ?_, fun u hu => ?_, fun _ => hb7r⟩
          · exact HX.out.2.1.below hb7r (fun j hj => (HX.out.2.1.lt j hj).2)
          · obtain ⟨v, e1, e2, e3⟩ := HS.out.box
            exact ⟨v, blk_grown e1 hg7 (hne e1 (by decide)), fun h => e2 (by simpa [Reg.upd] using h), fun h => absurd (HL.out 15 (by decide)) (by simpa [Reg.upd] using h)⟩
          · have h2 : some (Value.slice A7 tx.length c7) = some u := hu
            cases h2
            exact ⟨A7, c7, rfl, hs7⟩
          · have : rs 12 = some u := by simpa [Reg.upd] using hu
            rw [HL.out 12 (by decide)] at this
            cases this
          · have : rs 13 = some u := by simpa [Reg.upd] using hu
            rw [HL.out 13 (by decide)] at this
            cases this
        | 12, _ =>
          refine Reg.Ob.eff rfl rfl rfl ?_
          intro rs wx a hs hd hn hl hk K hK
          have e39 : (a.tmps[39]?).getD undef = ((rs 11).getD undef) := hk 39 (by decide)
          obtain ⟨u4, hu4⟩ := hd 11 (by decide) (by decide)
          obtain ⟨A5, c5, rfl, _⟩ := hs.txt u4 hu4
          rw [hu4] at e39
          simp only [Option.getD_some] at e39
          have HU := Lib.hid hu4
          clear hu4
          have HS := Lib.hid hs
          have HN := Lib.hid hn
          have HL := Lib.hid hl
          have HKK := Lib.hid hK
          clear hs hn hd hl hk hK
          go_simp
          have hbA : Below wx.heap.size wx (wx.alloc (.cells #[.slice A5 tx.length c5] 32)) := (Below.refl _ _).alloc (Nat.le_refl _) _
          refine HKK.out _ _ ⟨HS.out.below.alloc HS.out.below.size _, HS.out.names.alloc _, blk_alloc HS.out.box2 _, ?_, fun h => (HS.out.tab (by simpa [Reg.upd] using h)).below hbA, fun u hu h => ?_, fun u hu => ?_, fun u hu h => ?_, fun u hu => ?_, fun h => (HS.out.old (by simpa [Reg.upd] using h)).alloc (HS.out.old (by simpa [Reg.upd] using h)).size _⟩
          · obtain ⟨v, e1, e2, e3⟩ := HS.out.box
            exact ⟨v, blk_alloc e1 _, fun h => e2 (by simpa [Reg.upd] using h), fun h => absurd (HL.out 15 (by decide)) (by simpa [Reg.upd] using h)⟩
          · obtain ⟨g, e1, e0, e2⟩ := HS.out.emp u (by simpa [Reg.upd] using hu) (by simpa [Reg.upd] using h)
            exact ⟨g, e1, e0, e2.alloc _⟩
          · obtain ⟨A, c, e1, e2⟩ := HS.out.txt u (by simpa [Reg.upd] using hu)
            exact ⟨A, c, e1, e2.alloc _⟩
          · have h2 : some (Value.slice (some ⟨wx.heap.size, 0, none⟩) 1 1) = some u := hu
            cases h2
            exact ⟨_, _, rfl, by simpa [Reg.upd] using HU.out, blk_cell (blk_new _ _) 0⟩
          · have : rs 13 = some u := by simpa [Reg.upd] using hu
            rw [HL.out 13 (by decide)] at this
            cases this
        | 13, _ =>
          refine Reg.Ob.eff rfl rfl rfl ?_
          intro rs wx a hs hd hn hl hk K hK
          have e29 : (a.tmps[29]?).getD undef = .slice At k ct := hk 29 (by decide)
          have e40 : (a.tmps[40]?).getD undef = ((rs 12).getD undef) := hk 40 (by decide)
          obtain ⟨u5, hu5⟩ := hd 12 (by decide) (by decide)
          obtain ⟨g, u4, rfl, hu4, hcg⟩ := hs.one u5 hu5 hn
          obtain ⟨A5, c5, rfl, ht5⟩ := hs.txt u4 hu4
          rw [hu5] at e40
          simp only [Option.getD_some] at e40
          have ht := hs.tab hn
          have HU := Lib.hid (And.intro hu4 (And.intro hu5 (And.intro hcg (And.intro ht5 ht))))
          clear hu4 hu5 hcg ht5 ht
          have HS := Lib.hid hs
          have HN := Lib.hid hn
          have HL := Lib.hid hl
          have HKK := Lib.hid hK
          clear hs hn hd hl hK
          obtain ⟨hu4, hu5, hcg, ht5, ht⟩ := HU.out
          obtain ⟨es, q1, q2, q3⟩ := ht
          refine wp_append_seq wx _ _ 36 rfl w.heap.size 32 i1 (.slice none 0 0) 1 24 Tryz.underlying36 HI1.out.1 HI1.out.2.1 HI1.out.2.2.1 HI1.out.2.2.2 rfl (.slice At k ct) k (es.map (·.2)) (by simpa [Act.eval] using e29) q2 ⟨g, 0, none⟩ 1 1 [.slice A5 tx.length c5] (by simpa [Act.eval] using e40) rfl (by intro j u hu; match j, hu with | 0, hu => simpa [hcg, Addr.add] using hu) (by intro u hu; simp at hu; subst hu; rfl) (by decide) (by have := HK.out.1; unfold maxLen; omega) (by have := HK.out.1; omega) HS.out.below.size ?_
          intro v7 w7 hs7 hg7 _
          obtain ⟨A7, c7, rfl⟩ := hs7.shape
          have hne : ∀ {j : Nat} {cs : Array Value} {T : TypeId}, wx.heap[j]? = some (.cells cs T) → T ≠ 32 → some j ≠ (Value.slice At k ct).ownBlock := fun {j cs T} hj hT e => by
            obtain ⟨cur, hc⟩ := q2.block j e.symm
            rw [hj] at hc
            simp at hc
            exact hT hc.2
          refine HKK.out _ _ ⟨HS.out.below.grown hg7 HS.out.below.size (fun j hj => (q2.lt j hj).1), HS.out.names.grown_ty q2 (by decide) hg7, blk_grown HS.out.box2 hg7 (hne HS.out.box2 (by decide)), ?_, fun h => (by simp [Reg.upd] at h), fun u hu h => ?_, fun u hu => ?_, fun u hu h => (by simp [Reg.upd] at h), fun u hu => ?_, fun h => (by simp [Reg.upd] at h)⟩
          · obtain ⟨v, e1, e2, e3⟩ := HS.out.box
            exact ⟨v, blk_grown e1 hg7 (hne e1 (by decide)), fun h => e2 (by simpa [Reg.upd] using h), fun h => absurd (HL.out 15 (by decide)) (by simpa [Reg.upd] using h)⟩
          · obtain ⟨g, e1, e0, e2⟩ := HS.out.emp u (by simpa [Reg.upd] using hu) (by simpa [Reg.upd] using h)
            exact ⟨g, e1, e0, e2.grown_ty q2 (by decide) hg7⟩
          · obtain ⟨A, c, e1, e2⟩ := HS.out.txt u (by simpa [Reg.upd] using hu)
            exact ⟨A, c, e1, e2.grown_ty q2 (by decide) hg7⟩
          · have h2 : some (Value.slice A7 (k + 1) c7) = some u := hu
            cases h2
            exact ⟨A7, c7, rfl, TabQ.push q1 q2 q3 ht5 hs7 hg7⟩
        | 14, _ => exact Reg.Ob.pure rfl rfl rfl (fun rs => .pointer (some ⟨w.heap.size + 1, 4, none⟩)) (fun _ => rfl) (fun rs wx a hs hd hl hk => by
            have e3 : (a.tmps[3]?).getD undef = .pointer (some ⟨w.heap.size + 1, 0, none⟩) := hk 3 (by decide)
            go_simp)
        | 15, _ =>
          refine Reg.Ob.eff rfl rfl rfl ?_
          intro rs wx a hs hd hn hl hk K hK
          have e42 : (a.tmps[42]?).getD undef = .pointer (some ⟨w.heap.size + 1, 4, none⟩) := hk 42 (by decide)
          have e41 : (a.tmps[41]?).getD undef = ((rs 13).getD undef) := hk 41 (by decide)
          obtain ⟨u6, hu6⟩ := hd 13 (by decide) (by decide)
          obtain ⟨A7, c7, rfl, ht7⟩ := hs.app u6 hu6
          obtain ⟨u11, hu11⟩ := hd 11 (by decide) (by decide)
          rw [hu6] at e41
          simp only [Option.getD_some] at e41
          obtain ⟨v8, hb8, _⟩ := hs.box
          obtain ⟨_, _, _, _, c4, _, _, _, _, z4⟩ := shCells hb8
          have HU := Lib.hid (And.intro hu6 (And.intro ht7 (And.intro hb8 hu11)))
          clear hu6 ht7 hb8 hu11
          have HS := Lib.hid hs
          have HN := Lib.hid hn
          have HL := Lib.hid hl
          have HKK := Lib.hid hK
          clear hs hn hd hl hk hK
          go_simp
          obtain ⟨hu6, ht7, hb8, hu11⟩ := HU.out
          refine HKK.out undef _ ⟨HS.out.below.setCell (by simp) _, HS.out.names.set_ty hb8 (by decide) 4 _, blk_set_other HS.out.box2 _ (by simp), ⟨_, blk_set_same hb8 4 _, fun h => by simp [Reg.upd] at h, fun _ => by simpa [Reg.upd] using hu6⟩, fun h => ?_, fun u hu h => ?_, fun u hu => ?_, fun u hu h => ?_, fun u hu => ?_, fun h => absurd (show rs 13 = none by simpa [Reg.upd] using h) (by rw [hu6]; simp)⟩
          · have : rs 13 = none := by simpa [Reg.upd] using h
            rw [hu6] at this
            cases this
          · have : rs 11 = none := by simpa [Reg.upd] using h
            rw [hu11] at this
            cases this
          · obtain ⟨A, c, e1, e2⟩ := HS.out.txt u (by simpa [Reg.upd] using hu)
            exact ⟨A, c, e1, e2.set_ty hb8 (by decide) 4 _⟩
          · have : rs 13 = none := by simpa [Reg.upd] using h
            rw [hu6] at this
            cases this
          · have : rs 13 = some u := by simpa [Reg.upd] using hu
            rw [hu6] at this
            cases this
            exact ⟨A7, c7, rfl, ht7.set hb8 (by decide) (by decide) 4 _⟩
        | n + 16, h => exact absurd h (by simp <;> omega)
      case h0 =>
        exact ⟨HX.out.1.drew, HX.out.2.1.drew, HX.out.2.2.2.1, ⟨_, HX.out.2.2.1, fun _ => rfl, fun h => absurd rfl h⟩, fun _ => HX.out.2.2.2.2.below (below_drewNs wr 1), fun u hu _ => (by cases hu), fun u hu => (by cases hu), fun u hu _ => (by cases hu), fun u hu => (by cases hu), fun _ => below_drewNs wr 1⟩
      case hend =>
        intro rs wx hs hd
        obtain ⟨u2, hu2⟩ := hd 2 (by decide) (by decide)
        obtain ⟨u6, hu6⟩ := hd 13 (by decide) (by decide)
        obtain ⟨u8, hu8⟩ := hd 15 (by decide) (by decide)
        obtain ⟨u4, hu4⟩ := hd 11 (by decide) (by decide)
        obtain ⟨u5, hu5⟩ := hd 12 (by decide) (by decide)
        obtain ⟨A7, c7, rfl, ht7⟩ := hs.app u6 hu6
        obtain ⟨v8, hb8, _, hv8⟩ := hs.box
        have hv8 := hv8 (by rw [hu8]; simp)
        rw [hu6] at hv8
        cases hv8
        have htk : (rows.take (k + 1)).map f = (rows.take k).map f ++ [tx] := by rw [take_snoc HT.out.1, List.map_append, List.map_cons, List.map_nil, HT.out.2.2.2]
        rw [← htk] at ht7
        have HE := Lib.hid (And.intro hs.below (And.intro hs.names (And.intro hb8 (And.intro hs.box2 ht7))))
        simp only [List.foldl_cons, List.foldl_nil, Act.put, List.setIfInBounds_toArray, List.set_cons_zero, List.set_cons_succ]
        rw [hu2, hu4, hu5, hu6]
        simp only [Option.getD_some]
        clear hs hd hb8 ht7 hu2 hu4 hu5 hu6 hu8 htk
        go_wp2_with fail
        go_roundg (rows.length - (k + 1))
        case measure => have := HG.out.2; omega
        case rel => exact ⟨k + 1, _, by omega, rfl, by go_num, HE.out.1, HE.out.2.1, HE.out.2.2.1, HE.out.2.2.2.1, HE.out.2.2.2.2⟩
    · have e : k = rows.length := by have := HG.out.1; omega
      subst e
      have t1 : ¬ (rows.length : Int) < (rows.length : Int) := by omega
      have hz2 : w.heap.size < wr.heap.size := blk_lt HX.out.2.2.2.1
      have hfin := blk_set5 HX.out.2.2.2.1 (.int .i64 S.most) (.int .i64 S.rules) (.string S.chosen) (.slice A4 rows.length c4) (.slice At rows.length ct)
      obtain ⟨f0, f1, f2, f3, f4, _⟩ := shCells hfin
      obtain ⟨q0, q1, q2, q3, q4, v0, v1, v2, v3, v4⟩ := shCells HX.out.2.2.2.1
      clear hfin
      go_wp2_with fail
      refine bodyPost_ret (v := .agg #[.int .i64 S.most, .int .i64 S.rules, .string S.chosen, .slice A4 rows.length c4, .slice At rows.length ct]) (by simp [results, Tryz.results16, go_sem, f0, f1, f2, f3, f4]) rfl ⟨_, _, rfl, ?_, ?_, ?_⟩
      · have := sh5_seq HX.out.2.1 HX.out.2.2.2.1 (by decide) (.int .i64 S.most) (.int .i64 S.rules) (.string S.chosen) (.slice A4 rows.length c4) (.slice At rows.length ct)
        rw [TxtAt, HF.out.2.2]
        exact this
      · have := HX.out.2.2.2.2.set5 HX.out.2.2.2.1 (.int .i64 S.most) (.int .i64 S.rules) (.string S.chosen) (.slice A4 rows.length c4) (.slice At rows.length ct)
        rw [List.take_length] at this
        rw [TabAt, List.length_map]
        exact this
      · exact sh5_below HX.out.1 (Nat.le_refl _) _ _ _ _ _

end Go.Proofs.YthbjcihdlhkboaaGreatDoor
