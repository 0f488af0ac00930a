/- How the lists are told: the program's Shelf and the reference's. -/
import Derived.Test.YthbjcihdlhkboaaGreatDoorPx3
import Derived.Test.YthbjcihdlhkboaaGreatDoorPx5
import Derived.Test.YthbjcihdlhkboaaGreatDoorReg
import Derived.Test.YthbjcihdlhkboaaGreatDoorStep2
namespace Go.Proofs.YthbjcihdlhkboaaGreatDoor
set_option linter.unusedSimpArgs false
set_option linter.unusedVariables false
open Go.RowKit Go.Maps Go.Shelf Go.Lib

/-- A list of lists of texts, in memory of its own. -/
def TabQ (w : World) (B : Nat) (v : Value) (n : Nat) (tss : List (List ByteArray)) : Prop :=
  ∃ es : List (List ByteArray × Value), es.map (·.1) = tss ∧ Seq w B 32 1 v n (es.map (·.2)) ∧ ∀ p ∈ es, TxtAt w B p.2 p.1
abbrev TabAt (w : World) (B : Nat) (v : Value) (tss : List (List ByteArray)) : Prop := TabQ w B v tss.length tss
abbrev nameL (ks : List (List UInt8)) : List Value := ks.map fun k => .string ⟨k.toArray⟩

section
variable {w w' : World} {B n : Nat} {v : Value} {tss : List (List ByteArray)}
theorem TabQ.nil (w : World) (B : Nat) : TabQ w B (.slice none 0 0) 0 [] := ⟨[], rfl, Seq.nil _ _ _ _, fun p hp => by cases hp⟩
theorem TabQ.below (h : TabQ w B v n tss) (hb : Below w.heap.size w w') : TabQ w' B v n tss := by
  obtain ⟨es, h1, h2, h3⟩ := h
  exact ⟨es, h1, h2.below hb (fun k hk => (h2.lt k hk).2), fun p hp => (h3 p hp).below hb (fun k hk => ((h3 p hp).lt k hk).2)⟩
theorem TabQ.shape (h : TabQ w B v n tss) : ∃ A c, v = .slice A n c := by obtain ⟨es, _, h2, _⟩ := h; exact h2.shape
theorem TabQ.lower {B' : Nat} (h : TabQ w B v n tss) (hB : B' ≤ B) : TabQ w B' v n tss := by
  obtain ⟨es, h1, h2, h3⟩ := h
  exact ⟨es, h1, h2.lower hB, fun p hp => (h3 p hp).lower hB⟩
theorem TabQ.set (h : TabQ w B v n tss) {b : Nat} {cs : Array Value} {T : TypeId} (hb : w.heap[b]? = some (.cells cs T)) (h1 : T ≠ 9) (h2 : T ≠ 32) (j : Nat) (u : Value) : TabQ (w.setCell ⟨b, j, none⟩ u) B v n tss := by
  obtain ⟨es, e1, e2, e3⟩ := h
  exact ⟨es, e1, e2.set_ty hb h2 j u, fun p hp => (e3 p hp).set_ty hb h1 j u⟩
/-- One is laid behind the others. -/
theorem TabQ.push {v' tv : Value} {ts : List ByteArray} {es : List (List ByteArray × Value)} (e1 : es.map (·.1) = tss) (e2 : Seq w B 32 1 v n (es.map (·.2))) (e3 : ∀ p ∈ es, TxtAt w B p.2 p.1) (ht : TxtAt w B tv ts)
    (hs : Seq w' B 32 1 v' (n + 1) (es.map (·.2) ++ [tv])) (hg : w.grownBy w' v.ownBlock) : TabQ w' B v' (n + 1) (tss ++ [ts]) := by
  refine ⟨es ++ [(ts, tv)], by simp [e1], by simpa using hs, fun p hp => ?_⟩
  rcases List.mem_append.1 hp with hp | hp
  · exact Seq.grown_ty (e3 p hp) e2 (by decide) hg
  · simp at hp; subst hp; exact Seq.grown_ty ht e2 (by decide) hg
end

theorem shCells {w : World} {b : Nat} {x0 x1 x2 x3 x4 : Value} {T : TypeId} (h : w.heap[b]? = some (.cells #[x0, x1, x2, x3, x4] T)) : w.cell? ⟨b, 0, none⟩ = some x0 ∧ w.cell? ⟨b, 1, none⟩ = some x1 ∧ w.cell? ⟨b, 2, none⟩ = some x2 ∧ w.cell? ⟨b, 3, none⟩ = some x3 ∧ w.cell? ⟨b, 4, none⟩ = some x4 ∧ w.frozen? ⟨b, 0, none⟩ = false ∧ w.frozen? ⟨b, 1, none⟩ = false ∧ w.frozen? ⟨b, 2, none⟩ = false ∧ w.frozen? ⟨b, 3, none⟩ = false ∧ w.frozen? ⟨b, 4, none⟩ = false :=
  ⟨blk_cell h 0, blk_cell h 1, blk_cell h 2, blk_cell h 3, blk_cell h 4, blk_frozen h 0, blk_frozen h 1, blk_frozen h 2, blk_frozen h 3, blk_frozen h 4⟩
theorem shZero (w : World) : (zeroValue 38).run Tryz.prog w = .ok (.agg #[.int .i64 0, .int .i64 0, .string ⟨#[]⟩, .slice none 0 0, .slice none 0 0]) w := by kernel_rfl
abbrev shZ : Obj := .cells #[.int .i64 0, .int .i64 0, .string ⟨#[]⟩, .slice none 0 0, .slice none 0 0] 38

/-- Told of Shelf's first region. -/
structure ShSt (w1 wx : World) (mb : Nat) (L : LS) (rs : Nat → Option Value) : Prop where
  below : Below w1.heap.size w1 wx
  key : ∀ u, rs 16 = some u → ∃ kb, u = .func (.func 108) #[] #[.pointer (some ⟨kb, 0, none⟩)] ∧ wx.heap[kb]? = some (.cells #[.map (some mb)] 93)
  srt : ∀ u, rs 17 = some u → ∃ A c, u = .slice A L.keys.length c ∧ Seq wx w1.heap.size 9 1 u L.keys.length (nameL L.keys)
  al : ∀ u, rs 19 = some u → ∃ b, u = .pointer (some ⟨b, 0, none⟩) ∧ w1.heap.size ≤ b ∧ ∃ x0 x1 x2 x3 x4, wx.heap[b]? = some (.cells #[x0, x1, x2, x3, x4] 38) ∧ (rs 20 ≠ none → x0 = .int .i64 L.most ∧ x1 = .int .i64 L.rules ∧ x2 = .string L.chosen ∧ rs 17 = some x3 ∧ x4 = .slice none 0 0)

/-- Told of a round of Shelf. -/
structure SgSt (w wx : World) (b k ct nk : Nat) (At : Option Addr) (L : LS) (nv : Value) (tss : List (List ByteArray)) (tx : List ByteArray) (rs : Nat → Option Value) : Prop where
  below : Below w.heap.size w wx
  names : Seq wx w.heap.size 9 1 nv nk (nameL L.keys)
  box2 : wx.heap[w.heap.size]? = some shZ
  box : ∃ v, wx.heap[b]? = some (.cells #[.int .i64 L.most, .int .i64 L.rules, .string L.chosen, nv, v] 38) ∧ (rs 8 = none → v = .slice At k ct) ∧ (rs 8 ≠ none → rs 6 = some v)
  tab : rs 6 = none → TabQ wx w.heap.size (.slice At k ct) k tss
  txt : ∀ u, rs 4 = some u → ∃ A c, u = .slice A tx.length c ∧ TxtAt wx w.heap.size u tx
  one : ∀ u, rs 5 = some u → rs 6 = none → ∃ g u4, u = .slice (some ⟨g, 0, none⟩) 1 1 ∧ rs 4 = some u4 ∧ wx.cell? ⟨g, 0, none⟩ = some u4
  app : ∀ u, rs 6 = some u → ∃ A c, u = .slice A (k + 1) c ∧ TabQ wx w.heap.size u (k + 1) (tss ++ [tx])

theorem sh5_below {W w : World} {b : Nat} (h : Below W.heap.size W w) (hb : W.heap.size ≤ b) (y0 y1 y2 y3 y4 : Value) :
    Below W.heap.size W (((((w.setCell ⟨b, 0, none⟩ y0).setCell ⟨b, 1, none⟩ y1).setCell ⟨b, 2, none⟩ y2).setCell ⟨b, 3, none⟩ y3).setCell ⟨b, 4, none⟩ y4) :=
  ((((h.setCell hb _).setCell hb _).setCell hb _).setCell hb _).setCell hb _
theorem sh5_other {w : World} {b c : Nat} {o : Obj} (h : w.heap[c]? = some o) (hne : c ≠ b) (y0 y1 y2 y3 y4 : Value) :
    (((((w.setCell ⟨b, 0, none⟩ y0).setCell ⟨b, 1, none⟩ y1).setCell ⟨b, 2, none⟩ y2).setCell ⟨b, 3, none⟩ y3).setCell ⟨b, 4, none⟩ y4).heap[c]? = some o :=
  blk_set_other (blk_set_other (blk_set_other (blk_set_other (blk_set_other h _ hne) _ hne) _ hne) _ hne) _ hne
theorem sh5_seq {w : World} {b B sz n : Nat} {e T : TypeId} {v : Value} {xs : List Value} {cs : Array Value} (h : Seq w B e sz v n xs) (hb : w.heap[b]? = some (.cells cs T)) (hne : T ≠ e) (y0 y1 y2 y3 y4 : Value) :
    Seq (((((w.setCell ⟨b, 0, none⟩ y0).setCell ⟨b, 1, none⟩ y1).setCell ⟨b, 2, none⟩ y2).setCell ⟨b, 3, none⟩ y3).setCell ⟨b, 4, none⟩ y4) B e sz v n xs :=
  ((((h.set_ty hb hne 0 y0).set_ty (blk_set_same hb 0 y0) hne 1 y1).set_ty (blk_set_same (blk_set_same hb 0 y0) 1 y1) hne 2 y2).set_ty (blk_set_same (blk_set_same (blk_set_same hb 0 y0) 1 y1) 2 y2) hne 3 y3).set_ty (blk_set_same (blk_set_same (blk_set_same (blk_set_same hb 0 y0) 1 y1) 2 y2) 3 y3) hne 4 y4
theorem TabQ.set5 {w : World} {b B n : Nat} {v : Value} {tss : List (List ByteArray)} {x0 x1 x2 x3 x4 : Value} (h : TabQ w B v n tss) (hb : w.heap[b]? = some (.cells #[x0, x1, x2, x3, x4] 38)) (y0 y1 y2 y3 y4 : Value) :
    TabQ (((((w.setCell ⟨b, 0, none⟩ y0).setCell ⟨b, 1, none⟩ y1).setCell ⟨b, 2, none⟩ y2).setCell ⟨b, 3, none⟩ y3).setCell ⟨b, 4, none⟩ y4) B v n tss := by
  obtain ⟨es, e1, e2, e3⟩ := h
  exact ⟨es, e1, sh5_seq e2 hb (by decide) _ _ _ _ _, fun p hp => sh5_seq (e3 p hp) hb (by decide) _ _ _ _ _⟩

set_option maxRecDepth 100000 in
set_option maxHeartbeats 16000000 in
theorem shelf17_any {w : World} {B lb mb n : Nat} {D : DataW Value} {L : LS} (h : LAt w B lb mb n D L) (hR : RightL L) (hl : L.items.length ≤ 1000000) (hks : ∀ s, (L.get s).isSome = true → s.size ≤ maxLen) :
    Calls Tryz.prog 15 #[.pointer (some ⟨lb, 0, none⟩)] w fun e w' => ∃ vn vt, e = .returned (.agg #[.int .i64 L.most, .int .i64 L.rules, .string L.chosen, vn, vt]) ∧ TxtAt w' w.heap.size vn (L.told.map (·.1)) ∧ TabAt w' w.heap.size vt (L.told.map (·.2)) ∧ Below w.heap.size w w' := by
  obtain ⟨f, hf⟩ : ∃ f : List UInt8 → List ByteArray, (fun k => ((L.get ⟨k.toArray⟩).getD []).map writeS) = f := ⟨_, rfl⟩
  have ht1 : L.told.map (·.1) = L.keys.map (fun k => (⟨k.toArray⟩ : ByteArray)) := by unfold LS.told; rw [List.map_map]; rfl
  have ht2 : L.told.map (·.2) = L.keys.map f := by unfold LS.told; rw [List.map_map, ← hf]; rfl
  rw [ht1, ht2]
  have C := fun (W : World) (hW : Below w.heap.size w W) (kb : Nat) (hk : W.heap[kb]? = some (.cells #[.map (some mb)] 93)) => psorted_call (h.below hW) hl kb hk
  have CT := fun (W : World) (hW : Below w.heap.size w W) (s : ByteArray) (hs : s.size ≤ maxLen) => texts17_any (h.below hW) hR s hs
  have hkl : L.keys.length ≤ 1000000 := by rw [LS.keys_length]; exact hl
  have hkm : ∀ k ∈ L.keys, (⟨k.toArray⟩ : ByteArray).size ≤ maxLen := fun k hk => hks _ (LS.key_mem hk)
  have HC := Lib.hid C
  have HCT := Lib.hid CT
  have HK := Lib.hid (And.intro hkl hkm)
  have HF := Lib.hid hf
  have r0 : w.cell? ⟨lb, 0, none⟩ = some (.int .i64 L.most) := blk_cell h.cells 0
  have r1 : w.cell? ⟨lb, 1, none⟩ = some (.int .i64 L.rules) := blk_cell h.cells 1
  have r2 : w.cell? ⟨lb, 2, none⟩ = some (.string L.chosen) := blk_cell h.cells 2
  have r3 : w.cell? ⟨lb, 3, none⟩ = some (.map (some mb)) := blk_cell h.cells 3
  have hlt := h.lt.1
  have hne : ¬ lb = w.heap.size := by omega
  have hbA : Below w.heap.size w (w.alloc shZ) := (Below.refl _ _).alloc (Nat.le_refl _) _
  have HA := Lib.hid hbA
  clear C CT h hR hl hks ht1 ht2 hf hkl hkm hbA
  obtain ⟨w1, hw1⟩ : ∃ w1, w.alloc shZ = w1 := ⟨_, rfl⟩
  have hz1 : w1.heap.size = w.heap.size + 1 := by rw [← hw1]; simp
  have hbox2 : w1.heap[w.heap.size]? = some shZ := by rw [← hw1]; exact blk_new w _
  rw [hw1] at HA
  have HB2 := Lib.hid (And.intro hz1 hbox2)
  clear hz1 hbox2
  go_enter Tryz.func15, Tryz.ntmps15
  go_wp2_with fail
  have d0 : w1.cell? ⟨lb, 0, none⟩ = some (.int .i64 L.most) := (HA.out.cell (p := ⟨lb, 0, none⟩) hlt).trans r0
  have d1 : w1.cell? ⟨lb, 1, none⟩ = some (.int .i64 L.rules) := (HA.out.cell (p := ⟨lb, 1, none⟩) hlt).trans r1
  have d2 : w1.cell? ⟨lb, 2, none⟩ = some (.string L.chosen) := (HA.out.cell (p := ⟨lb, 2, none⟩) hlt).trans r2
  have d3 : w1.cell? ⟨lb, 3, none⟩ = some (.map (some mb)) := (HA.out.cell (p := ⟨lb, 3, none⟩) hlt).trans r3
  have hlt1 : lb < w1.heap.size := by have := HB2.out.1; omega
  clear hw1 r0 r1 r2 r3
  refine Reg.wp_region_puts (A := [[], [0], [1, 0], [2, 1, 0], [], [4], [5, 4], [6, 5, 4], [], [8], [9, 8], [10, 9, 8], [], [12], [13, 12], [14, 13, 12], [15, 14, 13, 12], [16, 15, 14, 13, 12], [3, 2, 1, 0, 7, 6, 5, 4, 11, 10, 9, 8, 17, 16, 15, 14, 13, 12], [], [19, 18, 3, 2, 1, 0, 7, 6, 5, 4, 11, 10, 9, 8, 17, 16, 15, 14, 13, 12]]) (effs := [16, 17, 19, 20]) (N := 42)
    (val := fun i r => match i with | 0 => .pointer (some ⟨lb, 0, none⟩) | 1 => .pointer (some ⟨lb, 0, none⟩) | 2 => .pointer (some ⟨lb, 0, none⟩) | 3 => .int .i64 L.most | 4 => .pointer (some ⟨lb, 0, none⟩) | 5 => .pointer (some ⟨lb, 0, none⟩) | 6 => .pointer (some ⟨lb, 1, none⟩) | 7 => .int .i64 L.rules | 8 => .pointer (some ⟨lb, 0, none⟩) | 9 => .pointer (some ⟨lb, 0, none⟩) | 10 => .pointer (some ⟨lb, 2, none⟩) | 11 => .string L.chosen | 12 => .pointer (some ⟨lb, 0, none⟩) | 13 => .pointer (some ⟨lb, 0, none⟩) | 14 => .pointer (some ⟨lb, 3, none⟩) | 15 => .map (some mb) | 18 => .agg #[.int .i64 L.most, .int .i64 L.rules, .string L.chosen, (r 17), .slice none 0 0] | _ => undef)
    (Stage := fun rs wx => ShSt w1 wx mb L rs)
    (fun rs => [(some 6, .pointer (some ⟨lb, 0, none⟩)), (some 7, .pointer (some ⟨lb, 0, none⟩)), (some 8, .pointer (some ⟨lb, 0, none⟩)), (some 9, .int .i64 L.most), (some 10, .pointer (some ⟨lb, 0, none⟩)), (some 11, .pointer (some ⟨lb, 0, none⟩)), (some 12, .pointer (some ⟨lb, 1, none⟩)), (some 13, .int .i64 L.rules), (some 14, .pointer (some ⟨lb, 0, none⟩)), (some 15, .pointer (some ⟨lb, 0, none⟩)), (some 16, .pointer (some ⟨lb, 2, none⟩)), (some 17, .string L.chosen), (some 18, .pointer (some ⟨lb, 0, none⟩)), (some 19, .pointer (some ⟨lb, 0, none⟩)), (some 20, .pointer (some ⟨lb, 3, none⟩)), (some 21, .map (some mb)), (some 22, (rs 16).getD undef), (some 23, (rs 17).getD undef), (some 24, .agg #[.int .i64 L.most, .int .i64 L.rules, .string L.chosen, ((rs 17).getD undef), .slice none 0 0]), (some 3, (rs 19).getD undef), (none, (rs 20).getD undef)])
    (by kernel_rfl) (by kernel_rfl) rfl (fun _ => rfl) ?h0 ?hob ?hend
  case hob =>
    intro i hi
    match i, hi with
    | 0, _ => exact Reg.Ob.pure rfl rfl rfl (fun rs => .pointer (some ⟨lb, 0, none⟩)) (fun _ => rfl) (fun rs wx a hs hd hl hk => by
        have e0 : (a.tmps[0]?).getD undef = .pointer (some ⟨lb, 0, none⟩) := hk 0 (by decide)
        go_simp)
    | 1, _ => exact Reg.Ob.pure rfl rfl rfl (fun rs => .pointer (some ⟨lb, 0, none⟩)) (fun _ => rfl) (fun rs wx a hs hd hl hk => by
        have e6 : (a.tmps[6]?).getD undef = .pointer (some ⟨lb, 0, none⟩) := hk 6 (by decide)
        go_simp)
    | 2, _ => exact Reg.Ob.pure rfl rfl rfl (fun rs => .pointer (some ⟨lb, 0, none⟩)) (fun _ => rfl) (fun rs wx a hs hd hl hk => by
        have e7 : (a.tmps[7]?).getD undef = .pointer (some ⟨lb, 0, none⟩) := hk 7 (by decide)
        go_simp)
    | 3, _ => exact Reg.Ob.pure rfl rfl rfl (fun rs => .int .i64 L.most) (fun _ => rfl) (fun rs wx a hs hd hl hk => by
        have e8 : (a.tmps[8]?).getD undef = .pointer (some ⟨lb, 0, none⟩) := hk 8 (by decide)
        have c : wx.cell? ⟨lb, 0, none⟩ = some (.int .i64 L.most) := (hs.below.cell (p := ⟨lb, 0, none⟩) hlt1).trans d0
        go_simp)
    | 4, _ => exact Reg.Ob.pure rfl rfl rfl (fun rs => .pointer (some ⟨lb, 0, none⟩)) (fun _ => rfl) (fun rs wx a hs hd hl hk => by
        have e0 : (a.tmps[0]?).getD undef = .pointer (some ⟨lb, 0, none⟩) := hk 0 (by decide)
        go_simp)
    | 5, _ => exact Reg.Ob.pure rfl rfl rfl (fun rs => .pointer (some ⟨lb, 0, none⟩)) (fun _ => rfl) (fun rs wx a hs hd hl hk => by
        have e10 : (a.tmps[10]?).getD undef = .pointer (some ⟨lb, 0, none⟩) := hk 10 (by decide)
        go_simp)
    | 6, _ => exact Reg.Ob.pure rfl rfl rfl (fun rs => .pointer (some ⟨lb, 1, none⟩)) (fun _ => rfl) (fun rs wx a hs hd hl hk => by
        have e11 : (a.tmps[11]?).getD undef = .pointer (some ⟨lb, 0, none⟩) := hk 11 (by decide)
        go_simp)
    | 7, _ => exact Reg.Ob.pure rfl rfl rfl (fun rs => .int .i64 L.rules) (fun _ => rfl) (fun rs wx a hs hd hl hk => by
        have e12 : (a.tmps[12]?).getD undef = .pointer (some ⟨lb, 1, none⟩) := hk 12 (by decide)
        have c : wx.cell? ⟨lb, 1, none⟩ = some (.int .i64 L.rules) := (hs.below.cell (p := ⟨lb, 1, none⟩) hlt1).trans d1
        go_simp)
    | 8, _ => exact Reg.Ob.pure rfl rfl rfl (fun rs => .pointer (some ⟨lb, 0, none⟩)) (fun _ => rfl) (fun rs wx a hs hd hl hk => by
        have e0 : (a.tmps[0]?).getD undef = .pointer (some ⟨lb, 0, none⟩) := hk 0 (by decide)
        go_simp)
    | 9, _ => exact Reg.Ob.pure rfl rfl rfl (fun rs => .pointer (some ⟨lb, 0, none⟩)) (fun _ => rfl) (fun rs wx a hs hd hl hk => by
        have e14 : (a.tmps[14]?).getD undef = .pointer (some ⟨lb, 0, none⟩) := hk 14 (by decide)
        go_simp)
    | 10, _ => exact Reg.Ob.pure rfl rfl rfl (fun rs => .pointer (some ⟨lb, 2, none⟩)) (fun _ => rfl) (fun rs wx a hs hd hl hk => by
        have e15 : (a.tmps[15]?).getD undef = .pointer (some ⟨lb, 0, none⟩) := hk 15 (by decide)
        go_simp)
    | 11, _ => exact Reg.Ob.pure rfl rfl rfl (fun rs => .string L.chosen) (fun _ => rfl) (fun rs wx a hs hd hl hk => by
        have e16 : (a.tmps[16]?).getD undef = .pointer (some ⟨lb, 2, none⟩) := hk 16 (by decide)
        have c : wx.cell? ⟨lb, 2, none⟩ = some (.string L.chosen) := (hs.below.cell (p := ⟨lb, 2, none⟩) hlt1).trans d2
        go_simp)
    | 12, _ => exact Reg.Ob.pure rfl rfl rfl (fun rs => .pointer (some ⟨lb, 0, none⟩)) (fun _ => rfl) (fun rs wx a hs hd hl hk => by
        have e0 : (a.tmps[0]?).getD undef = .pointer (some ⟨lb, 0, none⟩) := hk 0 (by decide)
        go_simp)
    | 13, _ => exact Reg.Ob.pure rfl rfl rfl (fun rs => .pointer (some ⟨lb, 0, none⟩)) (fun _ => rfl) (fun rs wx a hs hd hl hk => by
        have e18 : (a.tmps[18]?).getD undef = .pointer (some ⟨lb, 0, none⟩) := hk 18 (by decide)
        go_simp)
    | 14, _ => exact Reg.Ob.pure rfl rfl rfl (fun rs => .pointer (some ⟨lb, 3, none⟩)) (fun _ => rfl) (fun rs wx a hs hd hl hk => by
        have e19 : (a.tmps[19]?).getD undef = .pointer (some ⟨lb, 0, none⟩) := hk 19 (by decide)
        go_simp)
    | 15, _ => exact Reg.Ob.pure rfl rfl rfl (fun rs => .map (some mb)) (fun _ => rfl) (fun rs wx a hs hd hl hk => by
        have e20 : (a.tmps[20]?).getD undef = .pointer (some ⟨lb, 3, none⟩) := hk 20 (by decide)
        have c : wx.cell? ⟨lb, 3, none⟩ = some (.map (some mb)) := (hs.below.cell (p := ⟨lb, 3, none⟩) hlt1).trans d3
        go_simp)
    | 16, _ =>
      refine Reg.Ob.eff rfl rfl rfl ?_
      intro rs wx a hs hd hn hl hk K hK
      have e21 : (a.tmps[21]?).getD undef = .map (some mb) := hk 21 (by decide)
      have HS := Lib.hid hs
      have HN := Lib.hid hn
      have HL := Lib.hid hl
      have HKK := Lib.hid hK
      clear hs hn hd hl hk hK
      go_simp
      refine (pkeysCall mb _).mono ?_
      rintro e w5 ⟨rfl, rfl⟩
      refine HKK.out _ _ ⟨HS.out.below.alloc HS.out.below.size _, fun u hu => ?_, fun u hu => ?_, fun u hu => ?_⟩
      · have h2 : some (Value.func (.func 108) #[] #[.pointer (some ⟨wx.heap.size, 0, none⟩)]) = some u := hu
        cases h2
        exact ⟨_, rfl, blk_new _ _⟩
      · obtain ⟨A, c, e1, e2⟩ := HS.out.srt u (by simpa [Reg.upd] using hu)
        exact ⟨A, c, e1, e2.alloc _⟩
      · obtain ⟨b, e1, e2, x0, x1, x2, x3, x4, e3, e4⟩ := HS.out.al u (by simpa [Reg.upd] using hu)
        exact ⟨b, e1, e2, x0, x1, x2, x3, x4, blk_alloc e3 _, fun h => by simpa [Reg.upd] using e4 (by simpa [Reg.upd] using h)⟩
    | 17, _ =>
      refine Reg.Ob.eff rfl rfl rfl ?_
      intro rs wx a hs hd hn hl hk K hK
      have e22 : (a.tmps[22]?).getD undef = ((rs 16).getD undef) := hk 22 (by decide)
      obtain ⟨u, hu⟩ := hd 16 (by decide) (by decide)
      obtain ⟨kb, rfl, hkb⟩ := hs.key u hu
      rw [hu] at e22
      simp only [Option.getD_some] at e22
      have C := HC.out wx (HA.out.trans (hs.below.mono HA.out.size)) kb hkb
      have HCC := Lib.hid C
      have HU := Lib.hid hu
      clear C hkb hu
      have HS := Lib.hid hs
      have HN := Lib.hid hn
      have HL := Lib.hid hl
      have HKK := Lib.hid hK
      clear hs hn hd hl hk hK
      go_simp
      refine HCC.out.mono ?_
      rintro e w5 ⟨A, c, rfl, hq, hb⟩
      refine HKK.out _ _ ⟨HS.out.below.trans (hb.mono HS.out.below.size), fun u hu => ?_, fun u hu => ?_, fun u hu => ?_⟩
      · obtain ⟨kb, e1, e2⟩ := HS.out.key u (by simpa [Reg.upd] using hu)
        exact ⟨kb, e1, blk_below e2 hb (blk_lt e2)⟩
      · have h2 : some (Value.slice A L.keys.length c) = some u := hu
        cases h2
        exact ⟨A, c, rfl, hq.lower HS.out.below.size⟩
      · obtain ⟨b, e1, e2, x0, x1, x2, x3, x4, e3, e4⟩ := HS.out.al u (by simpa [Reg.upd] using hu)
        exact ⟨b, e1, e2, x0, x1, x2, x3, x4, blk_below e3 hb (blk_lt e3), fun h => absurd (HL.out 20 (by decide)) (by simpa [Reg.upd] using h)⟩
    | 18, _ => exact Reg.Ob.pure rfl rfl rfl (fun rs => .agg #[.int .i64 L.most, .int .i64 L.rules, .string L.chosen, ((rs 17).getD undef), .slice none 0 0]) (fun _ => rfl) (fun rs wx a hs hd hl hk => by
        have e9 : (a.tmps[9]?).getD undef = .int .i64 L.most := hk 9 (by decide)
        have e13 : (a.tmps[13]?).getD undef = .int .i64 L.rules := hk 13 (by decide)
        have e17 : (a.tmps[17]?).getD undef = .string L.chosen := hk 17 (by decide)
        have e23 : (a.tmps[23]?).getD undef = ((rs 17).getD undef) := hk 23 (by decide)
        obtain ⟨v, hv⟩ := hd 17 (by decide) (by decide)
        obtain ⟨A, c, rfl, _⟩ := hs.srt v hv
        rw [hv] at e23 ⊢
        simp only [Option.getD_some] at e23 ⊢
        clear hv hs hd hl hk
        go_simp)
    | 19, _ =>
      refine Reg.Ob.eff rfl rfl rfl ?_
      intro rs wx a hs hd hn hl hk K hK
      have HS := Lib.hid hs
      have HN := Lib.hid hn
      have HL := Lib.hid hl
      have HKK := Lib.hid hK
      clear hs hn hd hl hk hK
      go_simp
      refine HKK.out _ _ ⟨HS.out.below.alloc HS.out.below.size _, fun u hu => ?_, fun u hu => ?_, fun u hu => ?_⟩
      · obtain ⟨kb, e1, e2⟩ := HS.out.key u (by simpa [Reg.upd] using hu)
        exact ⟨kb, e1, blk_alloc e2 _⟩
      · obtain ⟨A, c, e1, e2⟩ := HS.out.srt u (by simpa [Reg.upd] using hu)
        exact ⟨A, c, e1, e2.alloc _⟩
      · have h2 : some (Value.pointer (some ⟨wx.heap.size, 0, none⟩)) = some u := hu
        cases h2
        exact ⟨_, rfl, HS.out.below.size, _, _, _, _, _, blk_new _ _, fun h => absurd (HL.out 20 (by decide)) (by simpa [Reg.upd] using h)⟩
    | 20, _ =>
      refine Reg.Ob.eff rfl rfl rfl ?_
      intro rs wx a hs hd hn hl hk K hK
      have e3 : (a.tmps[3]?).getD undef = ((rs 19).getD undef) := hk 3 (by decide)
      have e24 : (a.tmps[24]?).getD undef = .agg #[.int .i64 L.most, .int .i64 L.rules, .string L.chosen, ((rs 17).getD undef), .slice none 0 0] := hk 24 (by decide)
      obtain ⟨u17, hu17⟩ := hd 17 (by decide) (by decide)
      obtain ⟨u19, hu19⟩ := hd 19 (by decide) (by decide)
      obtain ⟨A, c, rfl, hE⟩ := hs.srt u17 hu17
      obtain ⟨b, rfl, hbw, x0, x1, x2, x3, x4, hbx, _⟩ := hs.al u19 hu19
      rw [hu17] at e24
      rw [hu19] at e3
      simp only [Option.getD_some] at e24 e3
      obtain ⟨y0, y1, y2, y3, y4, z0, z1, z2, z3, z4⟩ := shCells hbx
      have HX := Lib.hid (And.intro hE (And.intro hbw (And.intro hbx (And.intro hu17 hu19))))
      clear hE hbw hbx hu17 hu19
      have HS := Lib.hid hs
      have HN := Lib.hid hn
      have HL := Lib.hid hl
      have HKK := Lib.hid hK
      clear hs hn hd hl hk hK
      go_simp
      obtain ⟨hE, hbw, hbx, hu17, hu19⟩ := HX.out
      refine HKK.out undef _ ⟨sh5_below HS.out.below hbw _ _ _ _ _, fun u hu => ?_, fun u hu => ?_, fun u hu => ?_⟩
      · obtain ⟨kb, e1, e2⟩ := HS.out.key u (by simpa [Reg.upd] using hu)
        exact ⟨kb, e1, sh5_other e2 (by intro e; rw [e, hbx] at e2; simp at e2) _ _ _ _ _⟩
      · have : rs 17 = some u := by simpa [Reg.upd] using hu
        rw [hu17] at this
        cases this
        exact ⟨A, c, rfl, sh5_seq hE hbx (by decide) _ _ _ _ _⟩
      · have : rs 19 = some u := by simpa [Reg.upd] using hu
        rw [hu19] at this
        cases this
        exact ⟨b, rfl, hbw, _, _, _, _, _, blk_set5 hbx _ _ _ _ _, fun _ => ⟨rfl, rfl, rfl, by simpa [Reg.upd] using hu17, rfl⟩⟩
    | n + 21, h => exact absurd h (by simp <;> omega)
  case h0 =>
    exact ⟨(below_drewNs w1 1), fun u hu => (by cases hu), fun u hu => (by cases hu), fun u hu => (by cases hu)⟩
  case hend =>
    intro rs wx hs hd
    obtain ⟨u17, hu17⟩ := hd 17 (by decide) (by decide)
    obtain ⟨u19, hu19⟩ := hd 19 (by decide) (by decide)
    obtain ⟨u20, hu20⟩ := hd 20 (by decide) (by decide)
    obtain ⟨u16, hu16⟩ := hd 16 (by decide) (by decide)
    obtain ⟨A, c, rfl, hE⟩ := hs.srt u17 hu17
    obtain ⟨b, rfl, hbw, x0, x1, x2, x3, x4, hbx, hx⟩ := hs.al u19 hu19
    obtain ⟨rfl, rfl, rfl, e3, rfl⟩ := hx (by rw [hu20]; simp)
    rw [hu17] at e3
    cases e3
    simp only [List.foldl_cons, List.foldl_nil, Act.put, List.setIfInBounds_toArray, List.set_cons_zero, List.set_cons_succ]
    rw [hu17, hu19, hu16]
    simp only [Option.getD_some]
    obtain ⟨y0, y1, y2, y3, y4, _⟩ := shCells hbx
    have HE := Lib.hid (And.intro hE (And.intro hbx (And.intro hs.below hbw)))
    clear hs hd hE hbx hu17 hu19 hu20 hu16 hbw
    have hwb : Below w.heap.size w wx := HA.out.trans (HE.out.2.2.1.mono HA.out.size)
    have hB1 : w.heap.size ≤ w1.heap.size := HA.out.size
    have hq0 := HE.out.1.lower hB1
    have hb2 : wx.heap[w.heap.size]? = some shZ := blk_below HB2.out.2 HE.out.2.2.1 (blk_lt HB2.out.2)
    have hnb : ¬ w.heap.size = b := by have := HE.out.2.2.2; have := HB2.out.1; omega
    have hnbb := hnb
    have HI := Lib.hid (And.intro hwb (And.intro hq0 (And.intro HE.out.2.1 hb2)))
    have HBW := Lib.hid (show w.heap.size ≤ b by have := HE.out.2.2.2; omega)
    have hzb : b < wx.heap.size := blk_lt HE.out.2.1
    clear hwb hB1 hq0 hb2 HE HA HB2 d0 d1 d2 d3 HC hlt1
    go_wp2_with fail
    clear y0 y1 y2 y3 y4
    go_loopg [28] L.keys.length (fun g s28 wr => ∃ (k : Nat) (vt : Value), k ≤ L.keys.length ∧ g = L.keys.length - k ∧ s28 = .int .i64 k ∧ Below w.heap.size w wr ∧ Seq wr w.heap.size 9 1 (.slice A L.keys.length c) L.keys.length (nameL L.keys) ∧ wr.heap[b]? = some (.cells #[.int .i64 L.most, .int .i64 L.rules, .string L.chosen, .slice A L.keys.length c, vt] 38) ∧ wr.heap[w.heap.size]? = some shZ ∧ TabQ wr w.heap.size vt k ((L.keys.take k).map f))
    case atStart => exact ⟨0, _, Nat.zero_le _, rfl, rfl, HI.out.1, HI.out.2.1, HI.out.2.2.1, HI.out.2.2.2, TabQ.nil _ _⟩
    case round =>
      obtain ⟨k, vt, hk, hgk, rfl, hbx, hq, hbox, hb2, htab⟩ := hrel
      obtain ⟨At, ct, rfl⟩ := htab.shape
      obtain ⟨y0, y1, y2, y3, y4, _, _, _, _, z4⟩ := shCells hbox
      have HX := Lib.hid (And.intro hbx (And.intro hq (And.intro hbox (And.intro hb2 htab))))
      have HG := Lib.hid (And.intro hk hgk)
      have hzb : b < wr.heap.size := blk_lt hbox
      clear hbx hq hbox hb2 htab hgk hk HI
      by_cases hlt2 : k < L.keys.length
      · have t1 : (k : Int) < (L.keys.length : Int) := by omega
        have t0 : (0 : Int) ≤ (k : Int) := by omega
        have hw : IntKind.i64.wrap ((k : Int) + 1) = (k : Int) + 1 := IntWalk.i64_in _ (by have := HK.out.1; omega)
        obtain ⟨ky, hky⟩ : ∃ ky, L.keys[k]? = some ky := ⟨_, List.getElem?_eq_getElem hlt2⟩
        obtain ⟨bA, oA, rfl, _, _, yA, _⟩ := HX.out.2.1.one (j := k) (v := .string ⟨ky.toArray⟩) (by simp [nameL, hky])
        have hfk : ((L.get ⟨ky.toArray⟩).getD []).map writeS = f ky := by rw [← HF.out]
        obtain ⟨tx, htx⟩ : ∃ tx, f ky = tx := ⟨_, rfl⟩
        have HKY := Lib.hid (And.intro hky (And.intro (hfk.trans htx) htx))
        clear hfk hky htx y0 y1 y2 y3
        obtain ⟨i0, hin, hz0, hz1, hz2⟩ := info_parts strsInfo
        have HIN := Lib.hid (And.intro hin (And.intro hz0 (And.intro hz1 hz2)))
        clear hin hz0 hz1 hz2
        go_wp2_with fail
        clear y4 z4
        refine Reg.wp_region_puts (A := [[], [0], [], [], [2, 3], [4, 2, 3], [1, 0, 5, 4, 2, 3], [0, 1, 2, 3, 4, 5, 6], [7, 0, 1, 2, 3, 4, 5, 6]]) (effs := [4, 5, 6, 8]) (N := 42)
          (val := fun i r => match i with | 0 => .pointer (some ⟨b, 4, none⟩) | 1 => .slice At k ct | 2 => .pointer (some ⟨lb, 0, none⟩) | 3 => .string ⟨ky.toArray⟩ | 7 => .pointer (some ⟨b, 4, none⟩) | _ => undef)
          (Stage := fun rs wx => SgSt w wx b k ct L.keys.length At L (.slice (some ⟨bA, oA, none⟩) L.keys.length c) ((L.keys.take k).map f) tx rs)
          (fun rs => [(some 32, .pointer (some ⟨b, 4, none⟩)), (some 33, .slice At k ct), (some 34, .pointer (some ⟨lb, 0, none⟩)), (some 35, .string ⟨ky.toArray⟩), (some 36, (rs 4).getD undef), (some 37, (rs 5).getD undef), (some 38, (rs 6).getD undef), (some 39, .pointer (some ⟨b, 4, none⟩)), (none, (rs 8).getD undef)])
          (by kernel_rfl) (by kernel_rfl) rfl (fun _ => rfl) ?h0 ?hob ?hend
        case hob =>
          intro i hi
          match i, hi with
          | 0, _ => exact Reg.Ob.pure rfl rfl rfl (fun rs => .pointer (some ⟨b, 4, none⟩)) (fun _ => rfl) (fun rs wx a hs hd hl hk => by
              have e3 : (a.tmps[3]?).getD undef = .pointer (some ⟨b, 0, none⟩) := hk 3 (by decide)
              go_simp)
          | 1, _ => exact Reg.Ob.pure rfl rfl rfl (fun rs => .slice At k ct) (fun _ => rfl) (fun rs wx a hs hd hl hk => by
              have e32 : (a.tmps[32]?).getD undef = .pointer (some ⟨b, 4, none⟩) := hk 32 (by decide)
              obtain ⟨v, hbv, hv1, _⟩ := hs.box
              obtain rfl := hv1 (hl 8 (by decide))
              have c : wx.cell? ⟨b, 4, none⟩ = some (.slice At k ct) := blk_cell hbv 4
              go_simp)
          | 2, _ => exact Reg.Ob.pure rfl rfl rfl (fun rs => .pointer (some ⟨lb, 0, none⟩)) (fun _ => rfl) (fun rs wx a hs hd hl hk => by
              have e0 : (a.tmps[0]?).getD undef = .pointer (some ⟨lb, 0, none⟩) := hk 0 (by decide)
              go_simp)
          | 3, _ => exact Reg.Ob.pure rfl rfl rfl (fun rs => .string ⟨ky.toArray⟩) (fun _ => rfl) (fun rs wx a hs hd hl hk => by
              have e5 : (a.tmps[5]?).getD undef = .string ⟨ky.toArray⟩ := hk 5 (by decide)
              go_simp)
          | 4, _ =>
            refine Reg.Ob.eff rfl rfl rfl ?_
            intro rs wx a hs hd hn hl hk K hK
            have e34 : (a.tmps[34]?).getD undef = .pointer (some ⟨lb, 0, none⟩) := hk 34 (by decide)
            have e35 : (a.tmps[35]?).getD undef = .string ⟨ky.toArray⟩ := hk 35 (by decide)
            have CT := HCT.out wx hs.below ⟨ky.toArray⟩ (HK.out.2 ky (List.mem_of_getElem? HKY.out.1))
            rw [HKY.out.2.1] at CT
            have HCT2 := Lib.hid CT
            clear CT
            have HS := Lib.hid hs
            have HN := Lib.hid hn
            have HL := Lib.hid hl
            have HKK := Lib.hid hK
            clear hs hn hd hl hk hK
            go_simp
            refine HCT2.out.mono ?_
            rintro e w5 ⟨A5, c5, rfl, ht5, hb5⟩
            refine HKK.out _ _ ⟨HS.out.below.trans (hb5.mono HS.out.below.size), HS.out.names.below hb5 (fun j hj => (HS.out.names.lt j hj).2), blk_below HS.out.box2 hb5 (blk_lt HS.out.box2), ?_, fun h => (HS.out.tab (by simpa [Reg.upd] using h)).below hb5, fun u hu => ?_, fun u hu => ?_, fun u hu => ?_⟩
            · obtain ⟨v, e1, e2, e3⟩ := HS.out.box
              exact ⟨v, blk_below e1 hb5 (blk_lt e1), fun h => e2 (by simpa [Reg.upd] using h), fun h => by simpa [Reg.upd] using e3 (by simpa [Reg.upd] using h)⟩
            · have h2 : some (Value.slice A5 tx.length c5) = some u := hu
              cases h2
              exact ⟨A5, c5, rfl, ht5.lower HS.out.below.size⟩
            · intro _
              have : rs 5 = some u := by simpa [Reg.upd] using hu
              rw [HL.out 5 (by decide)] at this
              cases this
            · have : rs 6 = some u := by simpa [Reg.upd] using hu
              rw [HL.out 6 (by decide)] at this
              cases this
          | 5, _ =>
            refine Reg.Ob.eff rfl rfl rfl ?_
            intro rs wx a hs hd hn hl hk K hK
            have e36 : (a.tmps[36]?).getD undef = ((rs 4).getD undef) := hk 36 (by decide)
            obtain ⟨u4, hu4⟩ := hd 4 (by decide) (by decide)
            obtain ⟨A5, c5, rfl, _⟩ := hs.txt u4 hu4
            rw [hu4] at e36
            simp only [Option.getD_some] at e36
            have HU := Lib.hid hu4
            clear hu4
            have HS := Lib.hid hs
            have HN := Lib.hid hn
            have HL := Lib.hid hl
            have HKK := Lib.hid hK
            clear hs hn hd hl hk hK
            go_simp
            have hbA : Below wx.heap.size wx (wx.alloc (.cells #[.slice A5 tx.length c5] 32)) := (Below.refl _ _).alloc (Nat.le_refl _) _
            refine HKK.out _ _ ⟨HS.out.below.alloc HS.out.below.size _, HS.out.names.alloc _, blk_alloc HS.out.box2 _, ?_, fun h => (HS.out.tab (by simpa [Reg.upd] using h)).below hbA, fun u hu => ?_, fun u hu => ?_, fun u hu => ?_⟩
            · obtain ⟨v, e1, e2, e3⟩ := HS.out.box
              exact ⟨v, blk_alloc e1 _, fun h => e2 (by simpa [Reg.upd] using h), fun h => by simpa [Reg.upd] using e3 (by simpa [Reg.upd] using h)⟩
            · obtain ⟨A, c, e1, e2⟩ := HS.out.txt u (by simpa [Reg.upd] using hu)
              exact ⟨A, c, e1, e2.alloc _⟩
            · intro _
              have h2 : some (Value.slice (some ⟨wx.heap.size, 0, none⟩) 1 1) = some u := hu
              cases h2
              exact ⟨_, _, rfl, by simpa [Reg.upd] using HU.out, blk_cell (blk_new _ _) 0⟩
            · have : rs 6 = some u := by simpa [Reg.upd] using hu
              rw [HL.out 6 (by decide)] at this
              cases this
          | 6, _ =>
            refine Reg.Ob.eff rfl rfl rfl ?_
            intro rs wx a hs hd hn hl hk K hK
            have e33 : (a.tmps[33]?).getD undef = .slice At k ct := hk 33 (by decide)
            have e37 : (a.tmps[37]?).getD undef = ((rs 5).getD undef) := hk 37 (by decide)
            obtain ⟨u5, hu5⟩ := hd 5 (by decide) (by decide)
            obtain ⟨g, u4, rfl, hu4, hcg⟩ := hs.one u5 hu5 hn
            obtain ⟨A5, c5, rfl, ht5⟩ := hs.txt u4 hu4
            rw [hu5] at e37
            simp only [Option.getD_some] at e37
            have ht := hs.tab hn
            obtain ⟨v8, hb8, _⟩ := hs.box
            have HU := Lib.hid (And.intro hu4 (And.intro hu5 (And.intro hcg (And.intro ht5 (And.intro ht hb8)))))
            clear hu4 hu5 hcg ht5 ht hb8
            have HS := Lib.hid hs
            have HN := Lib.hid hn
            have HL := Lib.hid hl
            have HKK := Lib.hid hK
            clear hs hn hd hl hK
            obtain ⟨hu4, hu5, hcg, ht5, ht, hb8⟩ := HU.out
            obtain ⟨es, q1, q2, q3⟩ := ht
            have hel : es.length = k := by have := q2.1; simpa using this
            refine wp_append_seq wx _ _ 36 rfl w.heap.size 32 i0 (.slice none 0 0) 1 24 Tryz.underlying36 HIN.out.1 HIN.out.2.1 HIN.out.2.2.1 HIN.out.2.2.2 rfl (.slice At k ct) k (es.map (·.2)) (by simpa [Act.eval] using e33) q2 ⟨g, 0, none⟩ 1 1 [.slice A5 tx.length c5] (by simpa [Act.eval] using e37) rfl (by intro j u hu; match j, hu with | 0, hu => simpa [hcg, Addr.add] using hu) (by intro u hu; simp at hu; subst hu; rfl) (by decide) (by have := HK.out.1; unfold maxLen; omega) (by have := HK.out.1; omega) HS.out.below.size ?_
            intro v7 w7 hs7 hg7 _
            obtain ⟨A7, c7, rfl⟩ := hs7.shape
            have hne : ∀ {j : Nat} {cs : Array Value} {T : TypeId}, wx.heap[j]? = some (.cells cs T) → T ≠ 32 → some j ≠ (Value.slice At k ct).ownBlock := fun {j cs T} hj hT e => by
              obtain ⟨cur, hc⟩ := q2.block j e.symm
              rw [hj] at hc
              simp at hc
              exact hT hc.2
            refine HKK.out _ _ ⟨HS.out.below.grown hg7 HS.out.below.size (fun j hj => (q2.lt j hj).1), HS.out.names.grown_ty q2 (by decide) hg7, blk_grown HS.out.box2 hg7 (hne HS.out.box2 (by decide)), ?_, fun h => ?_, fun u hu => ?_, fun u hu => ?_, fun u hu => ?_⟩
            · obtain ⟨v, e1, e2, e3⟩ := HS.out.box
              exact ⟨v, blk_grown e1 hg7 (hne e1 (by decide)), fun h => e2 (by simpa [Reg.upd] using h), fun h => absurd (HL.out 8 (by decide)) (by simpa [Reg.upd] using h)⟩
            · simp [Reg.upd] at h
            · have : rs 4 = some u := by simpa [Reg.upd] using hu
              rw [hu4] at this
              cases this
              exact ⟨A5, c5, rfl, Seq.grown_ty ht5 q2 (by decide) hg7⟩
            · intro h
              simp [Reg.upd] at h
            · have h2 : some (Value.slice A7 (k + 1) c7) = some u := hu
              cases h2
              exact ⟨A7, c7, rfl, TabQ.push q1 q2 q3 ht5 hs7 hg7⟩
          | 7, _ => exact Reg.Ob.pure rfl rfl rfl (fun rs => .pointer (some ⟨b, 4, none⟩)) (fun _ => rfl) (fun rs wx a hs hd hl hk => by
              have e3 : (a.tmps[3]?).getD undef = .pointer (some ⟨b, 0, none⟩) := hk 3 (by decide)
              go_simp)
          | 8, _ =>
            refine Reg.Ob.eff rfl rfl rfl ?_
            intro rs wx a hs hd hn hl hk K hK
            have e39 : (a.tmps[39]?).getD undef = .pointer (some ⟨b, 4, none⟩) := hk 39 (by decide)
            have e38 : (a.tmps[38]?).getD undef = ((rs 6).getD undef) := hk 38 (by decide)
            obtain ⟨u6, hu6⟩ := hd 6 (by decide) (by decide)
            obtain ⟨A7, c7, rfl, ht7⟩ := hs.app u6 hu6
            rw [hu6] at e38
            simp only [Option.getD_some] at e38
            obtain ⟨v8, hb8, _⟩ := hs.box
            obtain ⟨_, _, _, _, c4, _, _, _, _, z4⟩ := shCells hb8
            have HU := Lib.hid (And.intro hu6 (And.intro ht7 hb8))
            clear hu6 ht7 hb8
            have HS := Lib.hid hs
            have HN := Lib.hid hn
            have HL := Lib.hid hl
            have HKK := Lib.hid hK
            clear hs hn hd hl hk hK
            go_simp
            obtain ⟨hu6, ht7, hb8⟩ := HU.out
            have hnb : w.heap.size ≠ b := fun e => hnbb e
            refine HKK.out undef _ ⟨HS.out.below.setCell HBW.out _, HS.out.names.set_ty hb8 (by decide) 4 _, blk_set_other HS.out.box2 _ hnb, ⟨_, blk_set_same hb8 4 _, fun h => by simp [Reg.upd] at h, fun _ => by simpa [Reg.upd] using hu6⟩, fun h => ?_, fun u hu => ?_, fun u hu h => ?_, fun u hu => ?_⟩
            · have : rs 6 = none := by simpa [Reg.upd] using h
              rw [hu6] at this
              cases this
            · obtain ⟨A, c, e1, e2⟩ := HS.out.txt u (by simpa [Reg.upd] using hu)
              exact ⟨A, c, e1, e2.set_ty hb8 (by decide) 4 _⟩
            · have : rs 6 = none := by simpa [Reg.upd] using h
              rw [hu6] at this
              cases this
            · have : rs 6 = some u := by simpa [Reg.upd] using hu
              rw [hu6] at this
              cases this
              exact ⟨A7, c7, rfl, ht7.set hb8 (by decide) (by decide) 4 _⟩
          | n + 9, h => exact absurd h (by simp <;> omega)
        case h0 =>
          exact ⟨HX.out.1.drew, HX.out.2.1.drew, HX.out.2.2.2.1, ⟨_, HX.out.2.2.1, fun _ => rfl, fun h => absurd rfl h⟩, fun _ => HX.out.2.2.2.2.below (below_drewNs wr 1), fun u hu => (by cases hu), fun u hu _ => (by cases hu), fun u hu => (by cases hu)⟩
        case hend =>
          intro rs wx hs hd
          obtain ⟨u6, hu6⟩ := hd 6 (by decide) (by decide)
          obtain ⟨u8, hu8⟩ := hd 8 (by decide) (by decide)
          obtain ⟨u4, hu4⟩ := hd 4 (by decide) (by decide)
          obtain ⟨u5, hu5⟩ := hd 5 (by decide) (by decide)
          obtain ⟨A7, c7, rfl, ht7⟩ := hs.app u6 hu6
          obtain ⟨v8, hb8, _, hv8⟩ := hs.box
          have hv8 := hv8 (by rw [hu8]; simp)
          rw [hu6] at hv8
          cases hv8
          have htk : (L.keys.take (k + 1)).map f = (L.keys.take k).map f ++ [tx] := by rw [take_snoc HKY.out.1, List.map_append, List.map_cons, List.map_nil, HKY.out.2.2]
          rw [← htk] at ht7
          have HE := Lib.hid (And.intro hs.below (And.intro hs.names (And.intro hb8 (And.intro hs.box2 ht7))))
          simp only [List.foldl_cons, List.foldl_nil, Act.put, List.setIfInBounds_toArray, List.set_cons_zero, List.set_cons_succ]
          rw [hu4, hu5, hu6]
          simp only [Option.getD_some]
          clear hs hd hb8 ht7 hu4 hu5 hu6 hu8 htk
          go_wp2_with fail
          go_roundg (L.keys.length - (k + 1))
          case measure => have := HG.out.2; omega
          case rel => exact ⟨k + 1, _, by omega, rfl, by go_num, HE.out.1, HE.out.2.1, HE.out.2.2.1, HE.out.2.2.2.1, HE.out.2.2.2.2⟩
      · have e : k = L.keys.length := by have := HG.out.1; omega
        subst e
        have t1 : ¬ (L.keys.length : Int) < (L.keys.length : Int) := by omega
        obtain ⟨q0, q1, q2, q3, q4, v0, v1, v2, v3, v4⟩ := shCells HX.out.2.2.2.1
        have hz2 : w.heap.size < wr.heap.size := blk_lt HX.out.2.2.2.1
        have hfin := blk_set5 HX.out.2.2.2.1 (.int .i64 L.most) (.int .i64 L.rules) (.string L.chosen) (.slice A L.keys.length c) (.slice At L.keys.length ct)
        obtain ⟨f0, f1, f2, f3, f4, _⟩ := shCells hfin
        clear hfin
        go_wp2_with fail
        refine bodyPost_ret (v := .agg #[.int .i64 L.most, .int .i64 L.rules, .string L.chosen, .slice A L.keys.length c, .slice At L.keys.length ct]) (by simp [results, Tryz.results15, go_sem, f0, f1, f2, f3, f4]) rfl ⟨_, _, rfl, ?_, ?_, ?_⟩
        · have := sh5_seq HX.out.2.1 HX.out.2.2.2.1 (by decide) (.int .i64 L.most) (.int .i64 L.rules) (.string L.chosen) (.slice A L.keys.length c) (.slice At L.keys.length ct)
          rw [TxtAt, List.length_map, flatS, List.map_map]
          exact this
        · have := HX.out.2.2.2.2.set5 HX.out.2.2.2.1 (.int .i64 L.most) (.int .i64 L.rules) (.string L.chosen) (.slice A L.keys.length c) (.slice At L.keys.length ct)
          rw [List.take_length] at this
          rw [TabAt, List.length_map]
          exact this
        · exact sh5_below HX.out.1 (Nat.le_refl _) _ _ _ _ _

end Go.Proofs.YthbjcihdlhkboaaGreatDoor
