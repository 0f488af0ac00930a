/- The reference's lists: laying a row, taking one away, choosing one. -/
import Derived.Test.YthbjcihdlhkboaaGreatDoorPx1
namespace Go.Proofs.YthbjcihdlhkboaaGreatDoor
set_option linter.unusedSimpArgs false
set_option linter.unusedVariables false
open Go.RowKit Go.Maps Go.Shelf Go.Lib

theorem strsInfo : (Tryz.prog.info? 32).map (fun i => (i.zero, i.size, i.bytes)) = some (some (.slice none 0 0), 1, 24) := by kernel_rfl
theorem rulsInfo : (Tryz.prog.info? 107).map (fun i => (i.zero, i.size, i.bytes)) = some (some (.slice none 0 0), 1, 24) := by kernel_rfl

theorem Upd.seqGrown {w wx w2 : World} {C : Nat} {ks : Nat → Prop} {e : TypeId} {sz n : Nat} {v : Value} {xs : List Value} (h : Upd C ks w wx) (hs : Seq wx C e sz v n xs) (hg : wx.grownBy w2 v.ownBlock) (hC : C ≤ wx.heap.size) : Upd C ks w w2 :=
  ⟨hg.os.trans h.os, hg.tape.trans h.tape, hg.output.trans h.output, Nat.le_trans h.size hg.size, fun k hk hn => (hg.block k (by omega) (fun e => by have := (hs.lt k e.symm).1; omega)).trans (h.block k hk hn)⟩

/-- Told of put: three slices of its own grow beside the box. -/
structure PutS (w wx : World) (qb : Nat) (cs : Array Value) (v1 v2 v3 : Value) (n1 n2 n3 : Nat) (xs1 xs2 xs3 : List Value) : Prop where
  upd : Upd w.heap.size (fun k => k = qb) w wx
  lt : qb < w.heap.size
  box : wx.heap[qb]? = some (.cells cs 98)
  s1 : Seq wx w.heap.size 9 1 v1 n1 xs1
  s2 : Seq wx w.heap.size 32 1 v2 n2 xs2
  s3 : Seq wx w.heap.size 107 1 v3 n3 xs3

section
variable {w wx w2 : World} {B qb : Nat} {cs : Array Value} {v1 v2 v3 v' : Value} {n1 n2 n3 n' : Nat} {xs1 xs2 xs3 xs' : List Value}
theorem PutS.grownBox (h : PutS w wx qb cs v1 v2 v3 n1 n2 n3 xs1 xs2 xs3) {row : Option Nat} (hg : wx.grownBy w2 row) (hr : ∀ k, row = some k → w.heap.size ≤ k) : w2.heap[qb]? = some (.cells cs 98) :=
  (hg.block qb (blk_lt h.box) (fun e => by have := hr _ e.symm; have := h.lt; omega)).trans h.box
theorem PutS.grow1 (h : PutS w wx qb cs v1 v2 v3 n1 n2 n3 xs1 xs2 xs3) (hs : Seq w2 w.heap.size 9 1 v' n' xs') (hg : wx.grownBy w2 v1.ownBlock) : PutS w w2 qb cs v' v2 v3 n' n2 n3 xs' xs2 xs3 :=
  ⟨h.upd.seqGrown h.s1 hg h.upd.size, h.lt, h.grownBox hg fun k e => (h.s1.lt k e).1, hs, h.s2.grown_ty h.s1 (by decide) hg, h.s3.grown_ty h.s1 (by decide) hg⟩
theorem PutS.grow2 (h : PutS w wx qb cs v1 v2 v3 n1 n2 n3 xs1 xs2 xs3) (hs : Seq w2 w.heap.size 32 1 v' n' xs') (hg : wx.grownBy w2 v2.ownBlock) : PutS w w2 qb cs v1 v' v3 n1 n' n3 xs1 xs' xs3 :=
  ⟨h.upd.seqGrown h.s2 hg h.upd.size, h.lt, h.grownBox hg fun k e => (h.s2.lt k e).1, h.s1.grown_ty h.s2 (by decide) hg, hs, h.s3.grown_ty h.s2 (by decide) hg⟩
theorem PutS.grow3 (h : PutS w wx qb cs v1 v2 v3 n1 n2 n3 xs1 xs2 xs3) (hs : Seq w2 w.heap.size 107 1 v' n' xs') (hg : wx.grownBy w2 v3.ownBlock) : PutS w w2 qb cs v1 v2 v' n1 n2 n' xs1 xs2 xs' :=
  ⟨h.upd.seqGrown h.s3 hg h.upd.size, h.lt, h.grownBox hg fun k e => (h.s3.lt k e).1, h.s1.grown_ty h.s3 (by decide) hg, h.s2.grown_ty h.s3 (by decide) hg, hs⟩
theorem PutS.alloc (h : PutS w wx qb cs v1 v2 v3 n1 n2 n3 xs1 xs2 xs3) (o : Obj) : PutS w (wx.alloc o) qb cs v1 v2 v3 n1 n2 n3 xs1 xs2 xs3 :=
  ⟨h.upd.alloc h.upd.size o, h.lt, blk_alloc h.box o, h.s1.alloc o, h.s2.alloc o, h.s3.alloc o⟩
theorem PutS.store (h : PutS w wx qb cs v1 v2 v3 n1 n2 n3 xs1 xs2 xs3) (j : Nat) (u : Value) : PutS w (wx.setCell ⟨qb, j, none⟩ u) qb (cs.setIfInBounds j u) v1 v2 v3 n1 n2 n3 xs1 xs2 xs3 :=
  ⟨Upd.setCell (ks := fun k => k = qb) h.upd (a := (⟨qb, j, none⟩ : Addr)) (.inl rfl) u, h.lt, blk_set_same h.box j u, h.s1.set_ty h.box (by decide) j u, h.s2.set_ty h.box (by decide) j u, h.s3.set_ty h.box (by decide) j u⟩
/-- What was there of other kinds than the box. -/
theorem PutS.old (h : PutS w wx qb cs v1 v2 v3 n1 n2 n3 xs1 xs2 xs3) {cs0 : Array Value} (hq : w.heap[qb]? = some (.cells cs0 98)) {e : TypeId} {sz n : Nat} {v : Value} {xs : List Value} (hs : Seq w B e sz v n xs) (he : 98 ≠ e) : Seq wx B e sz v n xs :=
  hs.kept fun k hk => h.upd.block k (hs.lt k hk).2 (fun e1 => by
    obtain ⟨cur, hc⟩ := hs.block k hk
    rw [e1, hq] at hc
    simp at hc
    exact he hc.2)
end

theorem cut32 : Tryz.prog.underlying 32 = some (.slice (Tryz.prog.elem 32)) ∧ ∀ w, (sizeOf (Tryz.prog.elem 32)).run Tryz.prog w = .ok 1 w := ⟨by kernel_rfl, fun _ => by kernel_rfl⟩
theorem cut36 : Tryz.prog.underlying 36 = some (.slice (Tryz.prog.elem 36)) ∧ ∀ w, (sizeOf (Tryz.prog.elem 36)).run Tryz.prog w = .ok 1 w := ⟨by kernel_rfl, fun _ => by kernel_rfl⟩
theorem cut96 : Tryz.prog.underlying 96 = some (.slice (Tryz.prog.elem 96)) ∧ ∀ w, (sizeOf (Tryz.prog.elem 96)).run Tryz.prog w = .ok 1 w := ⟨by kernel_rfl, fun _ => by kernel_rfl⟩

theorem nm_one {rows : List RowV} {u : Value} (h : u ∈ nmL rows) : u.oneCell' = true := by
  obtain ⟨r, _, rfl⟩ := List.mem_map.1 h; rfl
theorem Seq.oneV {w : World} {B : Nat} {e : TypeId} {sz n : Nat} {v : Value} {xs : List Value} (h : Seq w B e sz v n xs) : v.oneCell' = true := by
  obtain ⟨A, c, rfl⟩ := h.shape; rfl
theorem tv_one {w : World} {B : Nat} {rows : List RowV} (h : ∀ r ∈ rows, TxtAt w B r.tv r.row.texts ∧ RulAt w B r.rv r.row.rules) {u : Value} (hu : u ∈ tvL rows) : u.oneCell' = true := by
  obtain ⟨r, hr, rfl⟩ := List.mem_map.1 hu; exact (h r hr).1.oneV
theorem rv_one {w : World} {B : Nat} {rows : List RowV} (h : ∀ r ∈ rows, TxtAt w B r.tv r.row.texts ∧ RulAt w B r.rv r.row.rules) {u : Value} (hu : u ∈ rvL rows) : u.oneCell' = true := by
  obtain ⟨r, hr, rfl⟩ := List.mem_map.1 hu; exact (h r hr).2.oneV

/-- No text of the lists lies in block x. -/
def Av (x : Nat) (vn : Value) (rows : List RowV) : Prop := vn.ownBlock ≠ some x ∧ ∀ r ∈ rows, r.tv.ownBlock ≠ some x
def RfAv (w : World) (B qb : Nat) (S : RL) (x : Nat) : Prop := ∃ vn vt vr rows, RfW w B qb S vn vt vr rows ∧ Av x vn rows
theorem RfAv.at {w : World} {B qb x : Nat} {S : RL} (h : RfAv w B qb S x) : RfAt w B qb S := by
  obtain ⟨vn, vt, vr, rows, hR, _⟩ := h
  exact ⟨vn, vt, vr, rows, hR⟩
theorem RfAv.below {w w' : World} {B qb x : Nat} {S : RL} (h : RfAv w B qb S x) (hb : Below w.heap.size w w') : RfAv w' B qb S x := by
  obtain ⟨vn, vt, vr, rows, hR, ha⟩ := h
  exact ⟨vn, vt, vr, rows, hR.below hb, ha⟩
/-- The box itself is no text's block. -/
theorem RfAt.av {w : World} {B qb : Nat} {S : RL} (h : RfAt w B qb S) {x : Nat} {o : Obj} (hx : w.heap[x]? = some o) (ho : ∀ cs, o ≠ .cells cs 9 (0, 0)) : RfAv w B qb S x := by
  obtain ⟨vn, vt, vr, rows, hR⟩ := h
  refine ⟨vn, vt, vr, rows, hR, fun e => ?_, fun r hr e => ?_⟩
  · obtain ⟨cs, hc⟩ := hR.names.block x e
    rw [hx] at hc
    exact ho cs (Option.some.inj hc)
  · obtain ⟨cs, hc⟩ := (hR.each r hr).1.block x e
    rw [hx] at hc
    exact ho cs (Option.some.inj hc)
theorem RfAt.fresh {w : World} {B qb : Nat} {S : RL} (h : RfAt w B qb S) {x : Nat} (hx : w.heap.size ≤ x ∨ x < B) : RfAv w B qb S x := by
  obtain ⟨vn, vt, vr, rows, hR⟩ := h
  exact ⟨vn, vt, vr, rows, hR, fun e => by have := hR.names.lt x e; omega, fun r hr e => by have := (hR.each r hr).1.lt x e; omega⟩

/-- The end of put. -/
theorem put_end_w {w wx : World} {B qb k rest : Nat} {S : RL} {vn vt vr v1 v2 v3 : Value} {rows o : List RowV} {n1 n2 n3 : Nat} {xs1 xs2 xs3 : List Value}
    (hR : RfW w B qb S vn vt vr rows) (hB : B ≤ w.heap.size) (h : PutS w wx qb #[.int .i64 S.most, .int .i64 S.rules, .string S.chosen, v1, v2, v3] v1 v2 v3 n1 n2 n3 xs1 xs2 xs3)
    (ho : ∀ r ∈ o, TxtAt w B r.tv r.row.texts ∧ RulAt w B r.rv r.row.rules)
    (e1 : xs1 = (nmL rows).take k ++ nmL o ++ (nmL rows).drop rest)
    (e2 : xs2 = (tvL rows).take k ++ tvL o ++ (tvL rows).drop rest)
    (e3 : xs3 = (rvL rows).take k ++ rvL o ++ (rvL rows).drop rest) {S' : RL}
    (hS : S' = { S with rows := S.rows.take k ++ o.map (·.row) ++ S.rows.drop rest }) : RfW wx B qb S' v1 v2 v3 (rows.take k ++ o ++ rows.drop rest) := by
  subst hS
  have hl1 : n1 = (rows.take k ++ o ++ rows.drop rest).length := by have := h.s1.1; rw [e1] at this; simp [nmL] at this; simp; omega
  have hl2 : n2 = (rows.take k ++ o ++ rows.drop rest).length := by have := h.s2.1; rw [e2] at this; simp [tvL] at this; simp; omega
  have hl3 : n3 = (rows.take k ++ o ++ rows.drop rest).length := by have := h.s3.1; rw [e3] at this; simp [rvL] at this; simp; omega
  have s1 := h.s1.lower hB
  have s2 := h.s2.lower hB
  have s3 := h.s3.lower hB
  rw [hl1, e1] at s1
  rw [hl2, e2] at s2
  rw [hl3, e3] at s3
  exact {
    eq := by rw [← hR.eq]; simp [List.map_take, List.map_drop]
    cells := h.box
    names := by simpa [nmL, List.map_take, List.map_drop] using s1
    texts := by simpa [tvL, List.map_take, List.map_drop] using s2
    rules := by simpa [rvL, List.map_take, List.map_drop] using s3
    each := fun r hr => by
      have hh : TxtAt w B r.tv r.row.texts ∧ RulAt w B r.rv r.row.rules := by
        simp only [List.mem_append] at hr
        rcases hr with (hr | hr) | hr
        · exact hR.each r (List.mem_of_mem_take hr)
        · exact ho r hr
        · exact hR.each r (List.mem_of_mem_drop hr)
      exact ⟨h.old hR.cells hh.1 (by decide), h.old hR.cells hh.2 (by decide)⟩
    lo := hR.lo }
theorem put_end {w wx : World} {B qb k rest : Nat} {S : RL} {vn vt vr v1 v2 v3 : Value} {rows o : List RowV} {n1 n2 n3 : Nat} {xs1 xs2 xs3 : List Value}
    (hR : RfW w B qb S vn vt vr rows) (hB : B ≤ w.heap.size) (h : PutS w wx qb #[.int .i64 S.most, .int .i64 S.rules, .string S.chosen, v1, v2, v3] v1 v2 v3 n1 n2 n3 xs1 xs2 xs3)
    (ho : ∀ r ∈ o, TxtAt w B r.tv r.row.texts ∧ RulAt w B r.rv r.row.rules)
    (e1 : xs1 = (nmL rows).take k ++ nmL o ++ (nmL rows).drop rest)
    (e2 : xs2 = (tvL rows).take k ++ tvL o ++ (tvL rows).drop rest)
    (e3 : xs3 = (rvL rows).take k ++ rvL o ++ (rvL rows).drop rest) {S' : RL}
    (hS : S' = { S with rows := S.rows.take k ++ o.map (·.row) ++ S.rows.drop rest }) : RfAt wx B qb S' :=
  ⟨_, _, _, _, put_end_w hR hB h ho e1 e2 e3 hS⟩
theorem put_end_av {w wx : World} {B qb k rest : Nat} {S : RL} {vn vt vr v1 v2 v3 : Value} {rows o : List RowV} {n1 n2 n3 : Nat} {xs1 xs2 xs3 : List Value}
    (hR : RfW w B qb S vn vt vr rows) (hB : B ≤ w.heap.size) (h : PutS w wx qb #[.int .i64 S.most, .int .i64 S.rules, .string S.chosen, v1, v2, v3] v1 v2 v3 n1 n2 n3 xs1 xs2 xs3)
    (ho : ∀ r ∈ o, TxtAt w B r.tv r.row.texts ∧ RulAt w B r.rv r.row.rules)
    (e1 : xs1 = (nmL rows).take k ++ nmL o ++ (nmL rows).drop rest)
    (e2 : xs2 = (tvL rows).take k ++ tvL o ++ (tvL rows).drop rest)
    (e3 : xs3 = (rvL rows).take k ++ rvL o ++ (rvL rows).drop rest) {S' : RL}
    (hS : S' = { S with rows := S.rows.take k ++ o.map (·.row) ++ S.rows.drop rest }) {x : Nat} (hx : x < w.heap.size) (hav : Av x vn rows) (hoa : ∀ r ∈ o, r.tv.ownBlock ≠ some x) : RfAv wx B qb S' x :=
  ⟨_, _, _, _, put_end_w hR hB h ho e1 e2 e3 hS, fun e => by have := h.s1.lt x e; omega, fun r hr => by
    simp only [List.mem_append] at hr
    rcases hr with (hr | hr) | hr
    · exact hav.2 r (List.mem_of_mem_take hr)
    · exact hoa r hr
    · exact hav.2 r (List.mem_of_mem_drop hr)⟩
set_option maxRecDepth 100000 in
set_option maxHeartbeats 8000000 in
theorem put_row {w : World} {B qb : Nat} {S : RL} {x : Nat} (h : RfAv w B qb S x) (k rest : Nat) (hk : k ≤ S.rows.length) (hr : rest ≤ S.rows.length) (name : ByteArray) (pv rv : Value) (hx : x < w.heap.size) (hpx : pv.ownBlock ≠ some x) (texts : List ByteArray) (rules : List Rule) (hp : TxtAt w B pv texts) (hq : RulAt w B rv rules) (he : (name.toList == []) = false) (S' : RL) (hS : S' = { S with rows := S.rows.take k ++ [⟨name, texts, rules⟩] ++ S.rows.drop rest }) (hn : S.rows.length ≤ 1000000) (hB : B ≤ w.heap.size) :
    Calls Tryz.prog 91 #[.pointer (some ⟨qb, 0, none⟩), .int .i64 (k : Int), .int .i64 (rest : Int), .string name, pv, rv] w fun e w' => e = .returned (.tuple #[]) ∧ RfAv w' B qb S' x ∧ Upd w.heap.size (fun k => k = qb) w w' := by
  obtain ⟨vn, vt, vr, rows, hR, hav⟩ := h
  obtain ⟨A1, c1, rfl⟩ := hR.names.shape
  obtain ⟨A2, c2, rfl⟩ := hR.texts.shape
  obtain ⟨A3, c3, rfl⟩ := hR.rules.shape
  have hlen := hR.len
  have Hh1 := Lib.hid (hR.names.cut_h1 (k := k) cut32.1 cut32.2 (by omega))
  have Hh2 := Lib.hid (hR.texts.cut_h1 (k := k) cut36.1 cut36.2 (by omega))
  have Hh3 := Lib.hid (hR.rules.cut_h1 (k := k) cut96.1 cut96.2 (by omega))
  obtain ⟨D1, hl1⟩ := hR.names.cut_l1 (k := rest) cut32.1 cut32.2 (by omega)
  obtain ⟨D2, hl2⟩ := hR.texts.cut_l1 (k := rest) cut36.1 cut36.2 (by omega)
  obtain ⟨D3, hl3⟩ := hR.rules.cut_l1 (k := rest) cut96.1 cut96.2 (by omega)
  have Hl1 := Lib.hid hl1
  have Hl2 := Lib.hid hl2
  have Hl3 := Lib.hid hl3
  have HR := Lib.hid hR
  have HSS := Lib.hid hS
  clear hS
  have HK := Lib.hid (And.intro (show k ≤ rows.length by omega) (And.intro (show rest ≤ rows.length by omega) (And.intro (show rows.length ≤ 1000000 by omega) hB)))
  have HAX := Lib.hid (And.intro hx (And.intro hav hpx))
  clear hx hav hpx
  obtain ⟨pa, pc, rfl⟩ := hp.shape
  obtain ⟨ra, rc, rfl⟩ := hq.shape
  have HP := Lib.hid (And.intro hp hq)
  have HE := Lib.hid he
  have he1 : name.toList.isEmpty = false := by cases hx : name.toList with
    | nil => rw [hx] at he; simp at he
    | cons a l => rfl
  clear hp hq hR hl1 hl2 hl3 hk hr hn hlen hB
  go_enter Tryz.func91, Tryz.ntmps91
  have st0 : PutS w w qb #[.int .i64 S.most, .int .i64 S.rules, .string S.chosen, .slice A1 rows.length c1, .slice A2 rows.length c2, .slice A3 rows.length c3] (.slice none 0 0) (.slice none 0 0) (.slice none 0 0) 0 0 0 [] [] [] := ⟨Upd.refl _ _ _, blk_lt HR.out.cells, HR.out.cells, Seq.nil _ _ _ _, Seq.nil _ _ _ _, Seq.nil _ _ _ _⟩
  have HS := Lib.hid st0
  clear st0
  obtain ⟨i0, hi, hz0, hz1, hz2⟩ := info_parts strInfo
  have yy : w.cell? ⟨qb, 3, none⟩ = some (.slice A1 rows.length c1) := blk_cell HS.out.box 3
  have zz : w.frozen? ⟨qb, 3, none⟩ = false := blk_frozen HS.out.box 3
  have kk := Hh1.out.2
  go_wp2_with (at_builtin; refine wpList_append_src _ rfl _ _ 32 rfl w.heap.size 9 i0 (.string ⟨#[]⟩) 1 16 Tryz.underlying32 hi hz0 hz1 hz2 rfl _ 0 [] rfl HS.out.s1 A1 k c1 ((nmL rows).take k) rfl ((HS.out.old HR.out.cells Hh1.out.1 (by decide)).src _ (fun u hu => nm_one (List.mem_of_mem_take hu))) (by have := HK.out; unfold maxLen; omega) (by have := HK.out; omega) HS.out.upd.size ?_)
  intro v0 w0 hs hg
  try simp only [Nat.zero_add, List.nil_append] at hs
  obtain ⟨P0, q0, rfl⟩ := hs.shape
  have hst := HS.out.grow1 hs hg
  clear HS hs hg yy zz kk hi hz0 hz1 hz2
  have HS := Lib.hid hst
  clear hst
  obtain ⟨i0, hi, hz0, hz1, hz2⟩ := info_parts strsInfo
  have yy : w0.cell? ⟨qb, 4, none⟩ = some (.slice A2 rows.length c2) := blk_cell HS.out.box 4
  have zz : w0.frozen? ⟨qb, 4, none⟩ = false := blk_frozen HS.out.box 4
  have kk := Hh2.out.2
  go_wp2_with (at_builtin; refine wpList_append_src _ rfl _ _ 36 rfl w.heap.size 32 i0 (.slice none 0 0) 1 24 Tryz.underlying36 hi hz0 hz1 hz2 rfl _ 0 [] rfl HS.out.s2 A2 k c2 ((tvL rows).take k) rfl ((HS.out.old HR.out.cells Hh2.out.1 (by decide)).src _ (fun u hu => tv_one HR.out.each (List.mem_of_mem_take hu))) (by have := HK.out; unfold maxLen; omega) (by have := HK.out; omega) HS.out.upd.size ?_)
  intro v1 w1 hs hg
  try simp only [Nat.zero_add, List.nil_append] at hs
  obtain ⟨P1, q1, rfl⟩ := hs.shape
  have hst := HS.out.grow2 hs hg
  clear HS hs hg yy zz kk hi hz0 hz1 hz2
  have HS := Lib.hid hst
  clear hst
  obtain ⟨i0, hi, hz0, hz1, hz2⟩ := info_parts rulsInfo
  have yy : w1.cell? ⟨qb, 5, none⟩ = some (.slice A3 rows.length c3) := blk_cell HS.out.box 5
  have zz : w1.frozen? ⟨qb, 5, none⟩ = false := blk_frozen HS.out.box 5
  have kk := Hh3.out.2
  go_wp2_with (at_builtin; refine wpList_append_src _ rfl _ _ 96 rfl w.heap.size 107 i0 (.slice none 0 0) 1 24 Tryz.underlying96 hi hz0 hz1 hz2 rfl _ 0 [] rfl HS.out.s3 A3 k c3 ((rvL rows).take k) rfl ((HS.out.old HR.out.cells Hh3.out.1 (by decide)).src _ (fun u hu => rv_one HR.out.each (List.mem_of_mem_take hu))) (by have := HK.out; unfold maxLen; omega) (by have := HK.out; omega) HS.out.upd.size ?_)
  intro v2 w2 hs hg
  try simp only [Nat.zero_add, List.nil_append] at hs
  obtain ⟨P2, q2, rfl⟩ := hs.shape
  have hst := HS.out.grow3 hs hg
  clear HS hs hg yy zz kk hi hz0 hz1 hz2
  have HS := Lib.hid hst
  clear hst
  obtain ⟨i0, hi, hz0, hz1, hz2⟩ := info_parts strInfo
  go_wp2_with (at_builtin; refine wpList_append_seq _ rfl _ _ 32 rfl w.heap.size 9 i0 (.string ⟨#[]⟩) 1 16 Tryz.underlying32 hi hz0 hz1 hz2 rfl _ k ((nmL rows).take k) rfl (HS.out.alloc _).s1 ⟨w2.heap.size, 0, none⟩ 1 1 [Value.string name] rfl rfl ?c1 ?c2 (by decide) (by have := HK.out; unfold maxLen; omega) (by have := HK.out; omega) (by have := HS.out.upd.size; simp; omega) ?_)
  case c1 => intro j u hu; match j, hu with | 0, hu => simpa [go_sem, Addr.add] using hu
  case c2 => intro u hu; simp at hu; subst hu; rfl
  intro v3 w3 hs hg _
  obtain ⟨P3, q3, rfl⟩ := hs.shape
  have hst := (HS.out.alloc _).grow1 hs hg
  clear HS hs hg hi hz0 hz1 hz2
  have HS := Lib.hid hst
  clear hst
  obtain ⟨i0, hi, hz0, hz1, hz2⟩ := info_parts strsInfo
  go_wp2_with (at_builtin; refine wpList_append_seq _ rfl _ _ 36 rfl w.heap.size 32 i0 (.slice none 0 0) 1 24 Tryz.underlying36 hi hz0 hz1 hz2 rfl _ k ((tvL rows).take k) rfl (HS.out.alloc _).s2 ⟨w3.heap.size, 0, none⟩ 1 1 [Value.slice pa texts.length pc] rfl rfl ?c1 ?c2 (by decide) (by have := HK.out; unfold maxLen; omega) (by have := HK.out; omega) (by have := HS.out.upd.size; simp; omega) ?_)
  case c1 => intro j u hu; match j, hu with | 0, hu => simpa [go_sem, Addr.add] using hu
  case c2 => intro u hu; simp at hu; subst hu; rfl
  intro v4 w4 hs hg _
  obtain ⟨P4, q4, rfl⟩ := hs.shape
  have hst := (HS.out.alloc _).grow2 hs hg
  clear HS hs hg hi hz0 hz1 hz2
  have HS := Lib.hid hst
  clear hst
  obtain ⟨i0, hi, hz0, hz1, hz2⟩ := info_parts rulsInfo
  go_wp2_with (at_builtin; refine wpList_append_seq _ rfl _ _ 96 rfl w.heap.size 107 i0 (.slice none 0 0) 1 24 Tryz.underlying96 hi hz0 hz1 hz2 rfl _ k ((rvL rows).take k) rfl (HS.out.alloc _).s3 ⟨w4.heap.size, 0, none⟩ 1 1 [Value.slice ra rules.length rc] rfl rfl ?c1 ?c2 (by decide) (by have := HK.out; unfold maxLen; omega) (by have := HK.out; omega) (by have := HS.out.upd.size; simp; omega) ?_)
  case c1 => intro j u hu; match j, hu with | 0, hu => simpa [go_sem, Addr.add] using hu
  case c2 => intro u hu; simp at hu; subst hu; rfl
  intro v5 w5 hs hg _
  obtain ⟨P5, q5, rfl⟩ := hs.shape
  have hst := (HS.out.alloc _).grow3 hs hg
  clear HS hs hg hi hz0 hz1 hz2
  have HS := Lib.hid hst
  clear hst
  obtain ⟨i0, hi, hz0, hz1, hz2⟩ := info_parts strInfo
  have yy : w5.cell? ⟨qb, 3, none⟩ = some (.slice A1 rows.length c1) := blk_cell HS.out.box 3
  have zz : w5.frozen? ⟨qb, 3, none⟩ = false := blk_frozen HS.out.box 3
  have kk := Hl1.out.2
  go_wp2_with (at_builtin; refine wpList_append_src _ rfl _ _ 32 rfl w.heap.size 9 i0 (.string ⟨#[]⟩) 1 16 Tryz.underlying32 hi hz0 hz1 hz2 rfl _ (k + 1) (((nmL rows).take k) ++ [Value.string name]) rfl HS.out.s1 D1 (rows.length - rest) (c1 - rest) ((nmL rows).drop rest) rfl ((HS.out.old HR.out.cells Hl1.out.1 (by decide)).src _ (fun u hu => nm_one (List.mem_of_mem_drop hu))) (by have := HK.out; unfold maxLen; omega) (by have := HK.out; omega) HS.out.upd.size ?_)
  intro v6 w6 hs hg
  obtain ⟨P6, q6, rfl⟩ := hs.shape
  have hst := HS.out.grow1 hs hg
  clear HS hs hg yy zz kk hi hz0 hz1 hz2
  have HS := Lib.hid hst
  clear hst
  have yy : w6.cell? ⟨qb, 3, none⟩ = some (.slice A1 rows.length c1) := blk_cell HS.out.box 3
  have zz : w6.frozen? ⟨qb, 3, none⟩ = false := blk_frozen HS.out.box 3
  have hst := HS.out.store 3 (.slice P6 ((k + 1) + (rows.length - rest)) q6)
  clear HS
  have HS := Lib.hid hst
  clear hst
  go_upto_region 11 with (fail)
  clear yy zz
  obtain ⟨w7, hw7⟩ : ∃ W, w6.setCell ⟨qb, 3, none⟩ (.slice P6 ((k + 1) + (rows.length - rest)) q6) = W := ⟨_, rfl⟩
  rw [hw7] at HS ⊢
  clear hw7
  obtain ⟨i0, hi, hz0, hz1, hz2⟩ := info_parts strsInfo
  have yy : w7.cell? ⟨qb, 4, none⟩ = some (.slice A2 rows.length c2) := blk_cell HS.out.box 4
  have zz : w7.frozen? ⟨qb, 4, none⟩ = false := blk_frozen HS.out.box 4
  have kk := Hl2.out.2
  go_wp2_with (at_builtin; refine wpList_append_src _ rfl _ _ 36 rfl w.heap.size 32 i0 (.slice none 0 0) 1 24 Tryz.underlying36 hi hz0 hz1 hz2 rfl _ (k + 1) (((tvL rows).take k) ++ [Value.slice pa texts.length pc]) rfl HS.out.s2 D2 (rows.length - rest) (c2 - rest) ((tvL rows).drop rest) rfl ((HS.out.old HR.out.cells Hl2.out.1 (by decide)).src _ (fun u hu => tv_one HR.out.each (List.mem_of_mem_drop hu))) (by have := HK.out; unfold maxLen; omega) (by have := HK.out; omega) HS.out.upd.size ?_)
  intro v8 w8 hs hg
  obtain ⟨P8, q8, rfl⟩ := hs.shape
  have hst := HS.out.grow2 hs hg
  clear HS hs hg yy zz kk hi hz0 hz1 hz2
  have HS := Lib.hid hst
  clear hst
  have yy : w8.cell? ⟨qb, 4, none⟩ = some (.slice A2 rows.length c2) := blk_cell HS.out.box 4
  have zz : w8.frozen? ⟨qb, 4, none⟩ = false := blk_frozen HS.out.box 4
  have hst := HS.out.store 4 (.slice P8 ((k + 1) + (rows.length - rest)) q8)
  clear HS
  have HS := Lib.hid hst
  clear hst
  go_upto_region 12 with (fail)
  clear yy zz
  obtain ⟨w9, hw9⟩ : ∃ W, w8.setCell ⟨qb, 4, none⟩ (.slice P8 ((k + 1) + (rows.length - rest)) q8) = W := ⟨_, rfl⟩
  rw [hw9] at HS ⊢
  clear hw9
  obtain ⟨i0, hi, hz0, hz1, hz2⟩ := info_parts rulsInfo
  have yy : w9.cell? ⟨qb, 5, none⟩ = some (.slice A3 rows.length c3) := blk_cell HS.out.box 5
  have zz : w9.frozen? ⟨qb, 5, none⟩ = false := blk_frozen HS.out.box 5
  have kk := Hl3.out.2
  go_wp2_with (at_builtin; refine wpList_append_src _ rfl _ _ 96 rfl w.heap.size 107 i0 (.slice none 0 0) 1 24 Tryz.underlying96 hi hz0 hz1 hz2 rfl _ (k + 1) (((rvL rows).take k) ++ [Value.slice ra rules.length rc]) rfl HS.out.s3 D3 (rows.length - rest) (c3 - rest) ((rvL rows).drop rest) rfl ((HS.out.old HR.out.cells Hl3.out.1 (by decide)).src _ (fun u hu => rv_one HR.out.each (List.mem_of_mem_drop hu))) (by have := HK.out; unfold maxLen; omega) (by have := HK.out; omega) HS.out.upd.size ?_)
  intro v10 w10 hs hg
  obtain ⟨P10, q10, rfl⟩ := hs.shape
  have hst := HS.out.grow3 hs hg
  clear HS hs hg yy zz kk hi hz0 hz1 hz2
  have HS := Lib.hid hst
  clear hst
  have yy : w10.cell? ⟨qb, 5, none⟩ = some (.slice A3 rows.length c3) := blk_cell HS.out.box 5
  have zz : w10.frozen? ⟨qb, 5, none⟩ = false := blk_frozen HS.out.box 5
  have hst := HS.out.store 5 (.slice P10 ((k + 1) + (rows.length - rest)) q10)
  clear HS
  have HS := Lib.hid hst
  clear hst
  go_wp2_with fail
  clear yy zz
  go_end0
  refine ⟨rfl, ?_, HS.out.upd⟩
  exact put_end_av (k := k) (rest := rest) (o := [⟨⟨name, texts, rules⟩, .slice pa texts.length pc, .slice ra rules.length rc⟩]) HR.out HK.out.2.2.2 HS.out (by intro r hr; simp at hr; subst hr; exact HP.out) (by simp [nmL]) (by simp [tvL]) (by simp [rvL]) (HSS.out.trans (by simp)) HAX.out.1 HAX.out.2.1 (by intro r hr; simp at hr; subst hr; exact HAX.out.2.2)

set_option maxRecDepth 100000 in
set_option maxHeartbeats 8000000 in
theorem put_none {w : World} {B qb : Nat} {S : RL} (h : RfAt w B qb S) (k rest : Nat) (hk : k ≤ S.rows.length) (hr : rest ≤ S.rows.length) (S' : RL) (hS : S' = { S with rows := S.rows.take k ++ S.rows.drop rest }) (hn : S.rows.length ≤ 1000000) (hB : B ≤ w.heap.size) :
    Calls Tryz.prog 91 #[.pointer (some ⟨qb, 0, none⟩), .int .i64 (k : Int), .int .i64 (rest : Int), .string ⟨#[]⟩, .slice none 0 0, .slice none 0 0] w fun e w' => e = .returned (.tuple #[]) ∧ RfAt w' B qb S' ∧ Upd w.heap.size (fun k => k = qb) w w' := by
  obtain ⟨vn, vt, vr, rows, hR⟩ := h
  obtain ⟨A1, c1, rfl⟩ := hR.names.shape
  obtain ⟨A2, c2, rfl⟩ := hR.texts.shape
  obtain ⟨A3, c3, rfl⟩ := hR.rules.shape
  have hlen := hR.len
  have Hh1 := Lib.hid (hR.names.cut_h1 (k := k) cut32.1 cut32.2 (by omega))
  have Hh2 := Lib.hid (hR.texts.cut_h1 (k := k) cut36.1 cut36.2 (by omega))
  have Hh3 := Lib.hid (hR.rules.cut_h1 (k := k) cut96.1 cut96.2 (by omega))
  obtain ⟨D1, hl1⟩ := hR.names.cut_l1 (k := rest) cut32.1 cut32.2 (by omega)
  obtain ⟨D2, hl2⟩ := hR.texts.cut_l1 (k := rest) cut36.1 cut36.2 (by omega)
  obtain ⟨D3, hl3⟩ := hR.rules.cut_l1 (k := rest) cut96.1 cut96.2 (by omega)
  have Hl1 := Lib.hid hl1
  have Hl2 := Lib.hid hl2
  have Hl3 := Lib.hid hl3
  have HR := Lib.hid hR
  have HSS := Lib.hid hS
  clear hS
  have HK := Lib.hid (And.intro (show k ≤ rows.length by omega) (And.intro (show rest ≤ rows.length by omega) (And.intro (show rows.length ≤ 1000000 by omega) hB)))
  clear hR hl1 hl2 hl3 hk hr hn hlen hB
  go_enter Tryz.func91, Tryz.ntmps91
  have st0 : PutS w w qb #[.int .i64 S.most, .int .i64 S.rules, .string S.chosen, .slice A1 rows.length c1, .slice A2 rows.length c2, .slice A3 rows.length c3] (.slice none 0 0) (.slice none 0 0) (.slice none 0 0) 0 0 0 [] [] [] := ⟨Upd.refl _ _ _, blk_lt HR.out.cells, HR.out.cells, Seq.nil _ _ _ _, Seq.nil _ _ _ _, Seq.nil _ _ _ _⟩
  have HS := Lib.hid st0
  clear st0
  obtain ⟨i0, hi, hz0, hz1, hz2⟩ := info_parts strInfo
  have yy : w.cell? ⟨qb, 3, none⟩ = some (.slice A1 rows.length c1) := blk_cell HS.out.box 3
  have zz : w.frozen? ⟨qb, 3, none⟩ = false := blk_frozen HS.out.box 3
  have kk := Hh1.out.2
  go_wp2_with (at_builtin; refine wpList_append_src _ rfl _ _ 32 rfl w.heap.size 9 i0 (.string ⟨#[]⟩) 1 16 Tryz.underlying32 hi hz0 hz1 hz2 rfl _ 0 [] rfl HS.out.s1 A1 k c1 ((nmL rows).take k) rfl ((HS.out.old HR.out.cells Hh1.out.1 (by decide)).src _ (fun u hu => nm_one (List.mem_of_mem_take hu))) (by have := HK.out; unfold maxLen; omega) (by have := HK.out; omega) HS.out.upd.size ?_)
  intro v0 w0 hs hg
  try simp only [Nat.zero_add, List.nil_append] at hs
  obtain ⟨P0, q0, rfl⟩ := hs.shape
  have hst := HS.out.grow1 hs hg
  clear HS hs hg yy zz kk hi hz0 hz1 hz2
  have HS := Lib.hid hst
  clear hst
  obtain ⟨i0, hi, hz0, hz1, hz2⟩ := info_parts strsInfo
  have yy : w0.cell? ⟨qb, 4, none⟩ = some (.slice A2 rows.length c2) := blk_cell HS.out.box 4
  have zz : w0.frozen? ⟨qb, 4, none⟩ = false := blk_frozen HS.out.box 4
  have kk := Hh2.out.2
  go_wp2_with (at_builtin; refine wpList_append_src _ rfl _ _ 36 rfl w.heap.size 32 i0 (.slice none 0 0) 1 24 Tryz.underlying36 hi hz0 hz1 hz2 rfl _ 0 [] rfl HS.out.s2 A2 k c2 ((tvL rows).take k) rfl ((HS.out.old HR.out.cells Hh2.out.1 (by decide)).src _ (fun u hu => tv_one HR.out.each (List.mem_of_mem_take hu))) (by have := HK.out; unfold maxLen; omega) (by have := HK.out; omega) HS.out.upd.size ?_)
  intro v1 w1 hs hg
  try simp only [Nat.zero_add, List.nil_append] at hs
  obtain ⟨P1, q1, rfl⟩ := hs.shape
  have hst := HS.out.grow2 hs hg
  clear HS hs hg yy zz kk hi hz0 hz1 hz2
  have HS := Lib.hid hst
  clear hst
  obtain ⟨i0, hi, hz0, hz1, hz2⟩ := info_parts rulsInfo
  have yy : w1.cell? ⟨qb, 5, none⟩ = some (.slice A3 rows.length c3) := blk_cell HS.out.box 5
  have zz : w1.frozen? ⟨qb, 5, none⟩ = false := blk_frozen HS.out.box 5
  have kk := Hh3.out.2
  go_wp2_with (at_builtin; refine wpList_append_src _ rfl _ _ 96 rfl w.heap.size 107 i0 (.slice none 0 0) 1 24 Tryz.underlying96 hi hz0 hz1 hz2 rfl _ 0 [] rfl HS.out.s3 A3 k c3 ((rvL rows).take k) rfl ((HS.out.old HR.out.cells Hh3.out.1 (by decide)).src _ (fun u hu => rv_one HR.out.each (List.mem_of_mem_take hu))) (by have := HK.out; unfold maxLen; omega) (by have := HK.out; omega) HS.out.upd.size ?_)
  intro v2 w2 hs hg
  try simp only [Nat.zero_add, List.nil_append] at hs
  obtain ⟨P2, q2, rfl⟩ := hs.shape
  have hst := HS.out.grow3 hs hg
  clear HS hs hg yy zz kk hi hz0 hz1 hz2
  have HS := Lib.hid hst
  clear hst
  obtain ⟨i0, hi, hz0, hz1, hz2⟩ := info_parts strInfo
  have yy : w2.cell? ⟨qb, 3, none⟩ = some (.slice A1 rows.length c1) := blk_cell HS.out.box 3
  have zz : w2.frozen? ⟨qb, 3, none⟩ = false := blk_frozen HS.out.box 3
  have kk := Hl1.out.2
  go_wp2_with (at_builtin; refine wpList_append_src _ rfl _ _ 32 rfl w.heap.size 9 i0 (.string ⟨#[]⟩) 1 16 Tryz.underlying32 hi hz0 hz1 hz2 rfl _ k ((nmL rows).take k) rfl HS.out.s1 D1 (rows.length - rest) (c1 - rest) ((nmL rows).drop rest) rfl ((HS.out.old HR.out.cells Hl1.out.1 (by decide)).src _ (fun u hu => nm_one (List.mem_of_mem_drop hu))) (by have := HK.out; unfold maxLen; omega) (by have := HK.out; omega) HS.out.upd.size ?_)
  intro v3 w3 hs hg
  obtain ⟨P3, q3, rfl⟩ := hs.shape
  have hst := HS.out.grow1 hs hg
  clear HS hs hg yy zz kk hi hz0 hz1 hz2
  have HS := Lib.hid hst
  clear hst
  have yy : w3.cell? ⟨qb, 3, none⟩ = some (.slice A1 rows.length c1) := blk_cell HS.out.box 3
  have zz : w3.frozen? ⟨qb, 3, none⟩ = false := blk_frozen HS.out.box 3
  have hst := HS.out.store 3 (.slice P3 (k + (rows.length - rest)) q3)
  clear HS
  have HS := Lib.hid hst
  clear hst
  go_upto_region 11 with (fail)
  clear yy zz
  obtain ⟨w4, hw4⟩ : ∃ W, w3.setCell ⟨qb, 3, none⟩ (.slice P3 (k + (rows.length - rest)) q3) = W := ⟨_, rfl⟩
  rw [hw4] at HS ⊢
  clear hw4
  obtain ⟨i0, hi, hz0, hz1, hz2⟩ := info_parts strsInfo
  have yy : w4.cell? ⟨qb, 4, none⟩ = some (.slice A2 rows.length c2) := blk_cell HS.out.box 4
  have zz : w4.frozen? ⟨qb, 4, none⟩ = false := blk_frozen HS.out.box 4
  have kk := Hl2.out.2
  go_wp2_with (at_builtin; refine wpList_append_src _ rfl _ _ 36 rfl w.heap.size 32 i0 (.slice none 0 0) 1 24 Tryz.underlying36 hi hz0 hz1 hz2 rfl _ k ((tvL rows).take k) rfl HS.out.s2 D2 (rows.length - rest) (c2 - rest) ((tvL rows).drop rest) rfl ((HS.out.old HR.out.cells Hl2.out.1 (by decide)).src _ (fun u hu => tv_one HR.out.each (List.mem_of_mem_drop hu))) (by have := HK.out; unfold maxLen; omega) (by have := HK.out; omega) HS.out.upd.size ?_)
  intro v5 w5 hs hg
  obtain ⟨P5, q5, rfl⟩ := hs.shape
  have hst := HS.out.grow2 hs hg
  clear HS hs hg yy zz kk hi hz0 hz1 hz2
  have HS := Lib.hid hst
  clear hst
  have yy : w5.cell? ⟨qb, 4, none⟩ = some (.slice A2 rows.length c2) := blk_cell HS.out.box 4
  have zz : w5.frozen? ⟨qb, 4, none⟩ = false := blk_frozen HS.out.box 4
  have hst := HS.out.store 4 (.slice P5 (k + (rows.length - rest)) q5)
  clear HS
  have HS := Lib.hid hst
  clear hst
  go_upto_region 12 with (fail)
  clear yy zz
  obtain ⟨w6, hw6⟩ : ∃ W, w5.setCell ⟨qb, 4, none⟩ (.slice P5 (k + (rows.length - rest)) q5) = W := ⟨_, rfl⟩
  rw [hw6] at HS ⊢
  clear hw6
  obtain ⟨i0, hi, hz0, hz1, hz2⟩ := info_parts rulsInfo
  have yy : w6.cell? ⟨qb, 5, none⟩ = some (.slice A3 rows.length c3) := blk_cell HS.out.box 5
  have zz : w6.frozen? ⟨qb, 5, none⟩ = false := blk_frozen HS.out.box 5
  have kk := Hl3.out.2
  go_wp2_with (at_builtin; refine wpList_append_src _ rfl _ _ 96 rfl w.heap.size 107 i0 (.slice none 0 0) 1 24 Tryz.underlying96 hi hz0 hz1 hz2 rfl _ k ((rvL rows).take k) rfl HS.out.s3 D3 (rows.length - rest) (c3 - rest) ((rvL rows).drop rest) rfl ((HS.out.old HR.out.cells Hl3.out.1 (by decide)).src _ (fun u hu => rv_one HR.out.each (List.mem_of_mem_drop hu))) (by have := HK.out; unfold maxLen; omega) (by have := HK.out; omega) HS.out.upd.size ?_)
  intro v7 w7 hs hg
  obtain ⟨P7, q7, rfl⟩ := hs.shape
  have hst := HS.out.grow3 hs hg
  clear HS hs hg yy zz kk hi hz0 hz1 hz2
  have HS := Lib.hid hst
  clear hst
  have yy : w7.cell? ⟨qb, 5, none⟩ = some (.slice A3 rows.length c3) := blk_cell HS.out.box 5
  have zz : w7.frozen? ⟨qb, 5, none⟩ = false := blk_frozen HS.out.box 5
  have hst := HS.out.store 5 (.slice P7 (k + (rows.length - rest)) q7)
  clear HS
  have HS := Lib.hid hst
  clear hst
  go_wp2_with fail
  clear yy zz
  go_end0
  refine ⟨rfl, ?_, HS.out.upd⟩
  exact put_end (k := k) (rest := rest) (o := []) HR.out HK.out.2.2.2 HS.out (fun r hr => by cases hr) (by simp [nmL]) (by simp [tvL]) (by simp [rvL]) (HSS.out.trans (by simp))


theorem RfW.choose {w : World} {B qb : Nat} {S : RL} {vn vt vr : Value} {rows : List RowV} (h : RfW w B qb S vn vt vr rows) (x : ByteArray) : RfW (w.setCell ⟨qb, 2, none⟩ (.string x)) B qb { S with chosen := x } vn vt vr rows where
  eq := h.eq
  cells := blk_set_same h.cells 2 _
  names := h.names.set_ty h.cells (by decide) 2 _
  texts := h.texts.set_ty h.cells (by decide) 2 _
  rules := h.rules.set_ty h.cells (by decide) 2 _
  each := fun r hr => ⟨(h.each r hr).1.set_ty h.cells (by decide) 2 _, (h.each r hr).2.set_ty h.cells (by decide) 2 _⟩
  lo := h.lo
theorem RfAt.choose {w : World} {B qb : Nat} {S : RL} (h : RfAt w B qb S) (x : ByteArray) : RfAt (w.setCell ⟨qb, 2, none⟩ (.string x)) B qb { S with chosen := x } := by
  obtain ⟨vn, vt, vr, rows, h⟩ := h
  exact ⟨vn, vt, vr, rows, h.choose x⟩
theorem RfAt.c2 {w : World} {B qb : Nat} {S : RL} (h : RfAt w B qb S) : w.cell? ⟨qb, 2, none⟩ = some (.string S.chosen) ∧ w.frozen? ⟨qb, 2, none⟩ = false := by
  obtain ⟨vn, vt, vr, rows, h⟩ := h
  exact ⟨blk_cell h.cells 2, blk_frozen h.cells 2⟩
theorem empty_toList : (⟨#[]⟩ : ByteArray).toList = [] := by rw [Lib.toList_data]
theorem ne_empty {x : ByteArray} (h : x ≠ ⟨#[]⟩) : (x.toList == []) = false ∧ x.toList.isEmpty = false := by
  have hx : x.toList ≠ [] := fun e => h (Srt.data_inj (by rw [← Lib.toList_data, e]))
  cases hl : x.toList with
  | nil => exact absurd hl hx
  | cons a l => exact ⟨rfl, rfl⟩

set_option maxRecDepth 100000 in
set_option maxHeartbeats 4000000 in
theorem rdeflt_any {w : World} {B qb : Nat} {S : RL} (h : RfAt w B qb S) (x : ByteArray) (hn : S.rows.length ≤ 1000000) :
    Calls Tryz.prog 48 #[.pointer (some ⟨qb, 0, none⟩), .string x] w fun e w' => e = .returned (.int .i64 (S.deflt x).1) ∧ RfAt w' B qb (S.deflt x).2 ∧ Upd w.heap.size (fun k => k = qb) w w' := by
  have C := at_any h x hn
  have H := Lib.hid h
  clear h hn
  obtain ⟨i, hi⟩ : ∃ i, S.is x = i := ⟨_, rfl⟩
  unfold RL.deflt
  rw [hi] at C ⊢
  have HC := Lib.hid C
  clear C hi
  by_cases hx : x = ⟨#[]⟩
  · subst hx
    rw [if_neg (by simp)]
    go_enter Tryz.func48, Tryz.ntmps48
    go_wp2_with fail
    refine HC.out.mono ?_
    rintro e w1 ⟨rfl, hb1⟩
    obtain ⟨y, z⟩ := (H.out.below hb1).c2
    have HB := Lib.hid hb1
    clear hb1
    go_wp2_with fail
    go_ret
    exact ⟨rfl, (H.out.below HB.out).choose _, Upd.setCell (ks := fun k => k = qb) (Upd.of_below HB.out (Nat.le_refl _)) (a := (⟨qb, 2, none⟩ : Addr)) (.inl rfl) _⟩
  · obtain ⟨n1, n2⟩ := ne_empty hx
    cases i with
    | false =>
      rw [if_pos ⟨hx, rfl⟩]
      have HX := Lib.hid hx
      clear hx
      go_enter Tryz.func48, Tryz.ntmps48
      go_wp2_with fail
      refine HC.out.mono ?_
      rintro e w1 ⟨rfl, hb1⟩
      have HB := Lib.hid hb1
      clear hb1
      go_wp2_with fail
      go_ret
      exact ⟨rfl, H.out.below HB.out, Upd.of_below HB.out (Nat.le_refl _)⟩
    | true =>
      rw [if_neg (by simp)]
      have HX := Lib.hid hx
      clear hx
      go_enter Tryz.func48, Tryz.ntmps48
      go_wp2_with fail
      refine HC.out.mono ?_
      rintro e w1 ⟨rfl, hb1⟩
      obtain ⟨y, z⟩ := (H.out.below hb1).c2
      have HB := Lib.hid hb1
      clear hb1
      go_wp2_with fail
      go_ret
      exact ⟨rfl, (H.out.below HB.out).choose _, Upd.setCell (ks := fun k => k = qb) (Upd.of_below HB.out (Nat.le_refl _)) (a := (⟨qb, 2, none⟩ : Addr)) (.inl rfl) _⟩

set_option maxRecDepth 100000 in
set_option maxHeartbeats 4000000 in
theorem rdrop17_any {w : World} {B qb : Nat} {S : RL} (h : RfAt w B qb S) (x : ByteArray) (hn : S.rows.length ≤ 1000000) (hB : B ≤ w.heap.size) :
    Calls Tryz.prog 46 #[.pointer (some ⟨qb, 0, none⟩), .string x] w fun e w' => e = .returned (.int .i64 (S.drop x).1) ∧ RfAt w' B qb (S.drop x).2 ∧ Upd w.heap.size (fun k => k = qb) w w' := by
  have C := at_any h x hn
  obtain ⟨i, hi⟩ : ∃ i, S.is x = i := ⟨_, rfl⟩
  obtain ⟨p, hp⟩ : ∃ p, S.pos x = p := ⟨_, rfl⟩
  have hi2 := hi
  unfold RL.drop
  rw [hi, hp] at C
  rw [hi]
  have HC := Lib.hid C
  have HB := Lib.hid hB
  have HN := Lib.hid hn
  have H := Lib.hid h
  clear C h hn hB
  cases i with
  | false =>
    rw [if_pos rfl]
    clear hi hi2 hp
    go_enter Tryz.func46, Tryz.ntmps46
    go_wp2_with fail
    refine HC.out.mono ?_
    rintro e w1 ⟨rfl, hb1⟩
    have HB1 := Lib.hid hb1
    clear hb1
    go_wp2_with fail
    go_ret
    exact ⟨rfl, H.out.below HB1.out, Upd.of_below HB1.out (Nat.le_refl _)⟩
  | true =>
    rw [if_neg (by simp)]
    have hlt : p + 1 ≤ S.rows.length := by
      obtain ⟨r, h1, _⟩ := Srt.isAt_split hi2
      have := (List.getElem?_eq_some_iff.1 h1).1
      have e : Srt.pos Row.name S.rows x = p := hp
      omega
    have hput : S.rows.take p ++ S.rows.drop (p + 1) = Srt.put Row.name S.rows x [] := by
      unfold Srt.put Srt.rest
      rw [show Srt.isAt Row.name S.rows x = true from hi2, show Srt.pos Row.name S.rows x = p from hp]
      simp
    have HPUT := Lib.hid hput
    have HLT := Lib.hid hlt
    clear hi hi2 hp hput hlt
    cases hc : (S.chosen.toList == x.toList) with
    | true =>
      rw [if_pos (Srt.eqS.1 hc)]
      go_enter Tryz.func46, Tryz.ntmps46
      go_wp2_with fail
      refine HC.out.mono ?_
      rintro e w1 ⟨rfl, hb1⟩
      obtain ⟨y, _⟩ := (H.out.below hb1).c2
      have HB1 := Lib.hid hb1
      clear hb1
      go_wp2_with fail
      go_ret
      exact ⟨rfl, H.out.below HB1.out, Upd.of_below HB1.out (Nat.le_refl _)⟩
    | false =>
      rw [if_neg (fun e => by rw [Srt.eqS.2 e] at hc; cases hc)]
      have hw : IntKind.i64.wrap ((p : Int) + 1) = (p : Int) + 1 := IntWalk.i64_in _ (by have := HLT.out; have := HN.out; omega)
      go_enter Tryz.func46, Tryz.ntmps46
      go_wp2_with fail
      refine HC.out.mono ?_
      rintro e w1 ⟨rfl, hb1⟩
      obtain ⟨y, _⟩ := (H.out.below hb1).c2
      have HB1 := Lib.hid hb1
      have C2 := put_none (H.out.below hb1) p (p + 1) (by have := HLT.out; omega) HLT.out { S with rows := Srt.put Row.name S.rows x [] } (by rw [← HPUT.out]) HN.out (Nat.le_trans HB.out hb1.size)
      rw [show ((p + 1 : Nat) : Int) = (p : Int) + 1 by omega] at C2
      have HC2 := Lib.hid C2
      clear hb1 C2
      go_wp2_with fail
      refine HC2.out.mono ?_
      rintro e w2 ⟨rfl, hr2, hu2⟩
      have HR2 := Lib.hid (And.intro hr2 hu2)
      clear hr2 hu2
      go_wp2_with fail
      go_ret
      exact ⟨rfl, HR2.out.1, Upd.trans (Upd.of_below HB1.out (Nat.le_refl _)) HR2.out.2 HB1.out.size⟩

end Go.Proofs.YthbjcihdlhkboaaGreatDoor
