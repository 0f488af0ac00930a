/- The reference's roster: laying an entry. A rule as text: what the program writes. The reference's small functions: what each reckons. -/
import Derived.Lib.CutLaws
import Derived.Test.YthbjcihdlhkboaaGreatDoorQ10
import Derived.Test.YthbjcihdlhkboaaGreatDoorQ23
namespace Go.Proofs.YthbjcihdlhkboaaGreatDoor
set_option linter.unusedSimpArgs false
set_option linter.unusedVariables false
open Go.RowKit Go.Maps Go.Shelf Go.Lib

theorem flatE_take (es : List (Ent × Value)) (k : Nat) : flatE (es.take k) = (flatE es).take (k * 8) := by
  induction es generalizing k with
  | nil => simp [flatE]
  | cons e es ih =>
    have hc : ∀ l, flatE (e :: l) = e.1.cells e.2 ++ flatE l := fun l => by simp [flatE]
    cases k with
    | zero => simp [flatE]
    | succ k =>
      rw [List.take_succ_cons, hc, hc, ih]
      have e1 : (k + 1) * 8 = (e.1.cells e.2).length + k * 8 := by simp; omega
      rw [e1, List.take_length_add_append]
theorem flatE_drop (es : List (Ent × Value)) (k : Nat) : flatE (es.drop k) = (flatE es).drop (k * 8) := by
  induction es generalizing k with
  | nil => simp [flatE]
  | cons e es ih =>
    have hc : ∀ l, flatE (e :: l) = e.1.cells e.2 ++ flatE l := fun l => by simp [flatE]
    cases k with
    | zero => simp [flatE]
    | succ k =>
      rw [List.drop_succ_cons, hc, ih]
      have e1 : (k + 1) * 8 = (e.1.cells e.2).length + k * 8 := by simp; omega
      rw [e1, List.drop_length_add_append]
theorem flatE_one {w : World} {B : Nat} {X : Nat → Prop} {es : List (Ent × Value)} (h : ∀ p ∈ es, GrpX w B X p.2 p.1.groups) {u : Value} (hu : u ∈ flatE es) : u.oneCell' = true := by
  obtain ⟨p, hp, hu⟩ := List.mem_flatMap.1 hu
  simp at hu
  rcases hu with rfl | rfl | rfl | rfl | rfl | rfl | rfl | rfl
  all_goals first | rfl | exact (h p hp).1.one

/-- Told of set: the new entries grow beside the box and what is laid. -/
structure SetS (w wx : World) (qb bx : Nat) (cs ce : Array Value) (v : Value) (n : Nat) (xs : List Value) : Prop where
  upd : Upd w.heap.size (fun k => k = qb) w wx
  lt : qb < w.heap.size ∧ bx < w.heap.size
  box : wx.heap[qb]? = some (.cells cs 129)
  ebx : wx.heap[bx]? = some (.cells ce 54)
  s : Seq wx w.heap.size 54 8 v n xs

section
variable {w wx w2 : World} {B qb bx : Nat} {cs ce : Array Value} {v v' : Value} {n n' : Nat} {xs xs' : List Value}
theorem SetS.grow (h : SetS w wx qb bx cs ce v n xs) (hs : Seq w2 w.heap.size 54 8 v' n' xs') (hg : wx.grownBy w2 v.ownBlock) : SetS w w2 qb bx cs ce v' n' xs' := by
  have hne : ∀ k, k < w.heap.size → some k ≠ v.ownBlock := fun k hk e => by have := (h.s.lt k e.symm).1; omega
  have hz := h.upd.size
  have hl := h.lt
  exact ⟨⟨hg.os.trans h.upd.os, hg.tape.trans h.upd.tape, hg.output.trans h.upd.output, Nat.le_trans h.upd.size hg.size, fun k hk hn => (hg.block k (by omega) (hne k hk)).trans (h.upd.block k hk hn)⟩,
    h.lt, (hg.block qb (by omega) (hne qb hl.1)).trans h.box, (hg.block bx (by omega) (hne bx hl.2)).trans h.ebx, hs⟩
theorem SetS.s1 {o : Obj} (h : SetS (w.alloc o) wx qb bx cs ce v n xs) : Seq wx (w.heap.size + 1) 54 8 v n xs := by
  have := h.s
  rwa [World.size_alloc] at this
theorem SetS.alloc (h : SetS w wx qb bx cs ce v n xs) (o : Obj) : SetS w (wx.alloc o) qb bx cs ce v n xs :=
  ⟨h.upd.alloc h.upd.size o, h.lt, blk_alloc h.box o, blk_alloc h.ebx o, h.s.alloc o⟩
theorem SetS.below (h : SetS w wx qb bx cs ce v n xs) (hb : Below wx.heap.size wx w2) : SetS w w2 qb bx cs ce v n xs :=
  ⟨h.upd.trans (Upd.of_below hb h.upd.size) (Nat.le_refl _), h.lt, blk_below h.box hb (blk_lt h.box), blk_below h.ebx hb (blk_lt h.ebx), h.s.below hb fun k hk => (h.s.lt k hk).2⟩
theorem SetS.store (h : SetS w wx qb bx cs ce v n xs) (j : Nat) (u : Value) (hne : qb ≠ bx) : SetS w (wx.setCell ⟨qb, j, none⟩ u) qb bx (cs.setIfInBounds j u) ce v n xs :=
  ⟨Upd.setCell (ks := fun k => k = qb) h.upd (a := (⟨qb, j, none⟩ : Addr)) (.inl rfl) u, h.lt, blk_set_same h.box j u, blk_set_other h.ebx u (fun e => hne e.symm), h.s.set_ty h.box (by decide) j u⟩
/-- What was there of other kinds than the box. -/
theorem SetS.old (h : SetS w wx qb bx cs ce v n xs) {cs0 : Array Value} (hq : w.heap[qb]? = some (.cells cs0 129)) {e : TypeId} {sz n : Nat} {v : Value} {xs : List Value} (hs : Seq w B e sz v n xs) (he : 129 ≠ e) : Seq wx B e sz v n xs :=
  hs.kept fun k hk => h.upd.block k (hs.lt k hk).2 (fun e1 => by
    obtain ⟨cur, hc⟩ := hs.block k hk
    rw [e1, hq] at hc
    simp at hc
    exact he hc.2)
theorem SetS.grp (h : SetS w wx qb bx cs ce v n xs) {cs0 : Array Value} (hq : w.heap[qb]? = some (.cells cs0 129)) {X : Nat → Prop} {g : Value} {gs : List ByteArray} (hg : GrpX w B X g gs) : GrpX wx B X g gs :=
  hg.keep fun k cur hc _ _ => h.upd.block k (blk_lt hc) (fun e1 => by
    rw [e1, hq] at hc
    simp at hc)
end

/-- The end of set. -/
theorem set16_end {w wx : World} {B qb bx k rest : Nat} {X : Nat → Prop} {R : RS} {es : List (Ent × Value)} {e : Ent} {g v v0 : Value} {n : Nat} {ce : Array Value} {xs : List Value} (hnm : RNm R) (hq : w.heap[qb]? = some (.cells #[.int .i64 R.items, .int .i64 R.asks, .int .u64 R.ver, .int .u64 R.next, v0] 129))
    (he : es.map (·.1) = R.rows) (hge : ∀ p ∈ es, GrpX w B X p.2 p.1.groups) (hg : GrpX w B X g e.groups) (hX : ∀ k, X k → k < w.heap.size) (lay : Bool) (hlay : (e.kept || !(e.half.i == 0)) = lay)
    (hk : R.at e.contact = k) (hr : R.at e.contact + (if (R.get e.contact).isSome = true then 1 else 0) = rest)
    (h : SetS w wx qb bx #[.int .i64 R.items, .int .i64 R.asks, .int .u64 R.ver, .int .u64 R.next, v] ce v n xs)
    (hx : xs = (flatE es).take (k * 8) ++ (if lay = true then e.cells g else []) ++ (flatE es).drop (rest * 8)) (hB : B ≤ w.heap.size) (hlo : B ≤ qb) : QAt wx B X qb (R.set e) := by
  obtain ⟨v1, v2, v3, v4⟩ := RS.set_ver R e
  refine ⟨hnm.set e, ⟨v, by rw [v1, v2, v3, v4]; exact h.box, ?_⟩, hlo⟩
  have hrows : (R.set e).rows = R.rows.take k ++ (if lay = true then [e] else []) ++ R.rows.drop rest := by
    rw [hnm.rows_set, hlay, ← hk, ← hr, ← hnm.rest]
    rfl
  have hxs : xs = flatE (es.take k ++ (if lay = true then [(e, g)] else []) ++ es.drop rest) := by
    rw [hx, ← flatE_take, ← flatE_drop]
    cases lay <;> simp [flatE]
  have hln : n = (R.set e).rows.length := by
    have h1 := h.s.1
    rw [hxs, flatE_len] at h1
    have h2 : (R.set e).rows.length = (es.take k ++ (if lay = true then [(e, g)] else []) ++ es.drop rest).length := by
      rw [hrows, ← he]
      cases lay <;> simp
    omega
  refine ⟨es.take k ++ (if lay = true then [(e, g)] else []) ++ es.drop rest, ?_, ?_, fun k e1 hx => by have := h.s.lt k e1; have := hX k hx; omega, fun p hp => ?_⟩
  · rw [hrows, ← he]
    cases lay <;> simp [List.map_take, List.map_drop]
  · have := h.s.lower hB
    rw [hln, hxs] at this
    exact this
  · simp only [List.mem_append] at hp
    refine h.grp hq ?_
    rcases hp with (hp | hp) | hp
    · exact hge p (List.mem_of_mem_take hp)
    · cases lay
      · simp at hp
      · simp at hp; subst hp; exact hg
    · exact hge p (List.mem_of_mem_drop hp)

theorem cutEnt : Tryz.prog.underlying 49 = some (.slice (Tryz.prog.elem 49)) ∧ ∀ w, (sizeOf (Tryz.prog.elem 49)).run Tryz.prog w = .ok 8 w := ⟨by kernel_rfl, fun _ => by kernel_rfl⟩

set_option maxRecDepth 100000 in
set_option maxHeartbeats 8000000 in
theorem q16set_yk {w : World} {B qb : Nat} {X : Nat → Prop} {R : RS} (h : QAt w B X qb R) (e : Ent) (g : Value) (hg : GrpX w B X g e.groups) (hX : ∀ k, X k → k < w.heap.size) (hn : R.rows.length ≤ 1000000) (hB : B ≤ w.heap.size) (hs : (R.get e.contact).isSome = true) (hk : e.kept = true) :
    Calls Tryz.prog 102 #[.pointer (some ⟨qb, 0, none⟩), e.val g] w fun r w' => r = .returned (.tuple #[]) ∧ QAt w' B X qb (R.set e) ∧ Upd w.heap.size (fun k => k = qb) w w' := by
  obtain ⟨GA, gc, rfl⟩ := hg.shape
  obtain ⟨contact, kept, name, groups, ⟨o, n, i, m⟩⟩ := e
  simp only at hg hs hk ⊢
  obtain ⟨o8, ho8⟩ : ∃ o8 : Obj, (.cells #[.string contact, .bool kept, .string name, .slice GA groups.length gc, .int .i64 o, .int .u64 n, .int .i64 i, .int .u64 m] 54) = o8 := ⟨_, rfl⟩
  have hbA : Below w.heap.size w (w.alloc o8) := (Below.refl _ _).alloc (Nat.le_refl _) _
  have hb0 : (w.alloc o8).heap[w.heap.size]? = some o8 := blk_new _ _
  have hQ := h.below hbA
  have C := q16at_any hQ contact hn
  rw [hs] at C
  obtain ⟨k, hkp⟩ : ∃ k, R.at contact = k := ⟨_, rfl⟩
  rw [hkp] at C
  obtain ⟨A0, c0, hq, es, he, hsq, hfr, hge⟩ := hQ.open
  have hkl : k ≤ R.rows.length := by rw [← hkp]; exact Srt.pos_le _ _
  have hlt := hQ.lt
  have hrl : k + 1 ≤ R.rows.length := by
    obtain ⟨r, h1, _⟩ := Srt.isAt_split (show Srt.isAt Ent.contact R.rows contact = true by rw [h.nm.is, hs])
    have := (List.getElem?_eq_some_iff.1 h1).1
    have e : Srt.pos Ent.contact R.rows contact = k := hkp
    omega
  obtain ⟨rest, hrest⟩ : ∃ rest, k + 1 = rest := ⟨_, rfl⟩
  rw [hrest] at hrl
  have Hh := Lib.hid (hsq.cut_h (k := k) cutEnt.1 cutEnt.2 hkl)
  obtain ⟨D, hl⟩ := hsq.cut_l (k := rest) cutEnt.1 cutEnt.2 hrl
  have Hl := Lib.hid hl
  have hgA := hg.below hbA
  have hlo := h.lo
  have hnm := h.nm
  have hr2 : R.at contact + (if (R.get contact).isSome = true then 1 else 0) = rest := by rw [hs, hkp, ← hrest]; rfl
  have HEN := Lib.hid (And.intro hnm (And.intro hq (And.intro he (And.intro hge (And.intro hgA (And.intro hkp (And.intro hr2 (And.intro hlo hbA))))))))
  have HK := Lib.hid (And.intro hkl (And.intro hrl (And.intro hn (And.intro hB hrest))))
  have hne : qb ≠ w.heap.size := by have := h.lt; omega
  have st : SetS (w.alloc o8) (w.alloc o8) qb w.heap.size #[.int .i64 R.items, .int .i64 R.asks, .int .u64 R.ver, .int .u64 R.next, .slice A0 R.rows.length c0] #[.string contact, .bool kept, .string name, .slice GA groups.length gc, .int .i64 o, .int .u64 n, .int .i64 i, .int .u64 m] (.slice none 0 0) 0 [] :=
    ⟨Upd.refl _ _ _, ⟨hlt, by simp⟩, hq, by rw [hb0, ← ho8], Seq.nil _ _ _ _⟩
  rw [← ho8] at C st Hh Hl HEN
  have HC := Lib.hid C
  have HS := Lib.hid st
  have HNE := Lib.hid hne
  have HX := Lib.hid hX
  clear hX hfr
  have hkr : (k : Int) + 1 = (rest : Int) := by omega
  have hw : IntKind.i64.wrap ((k : Int) + 1) = (rest : Int) := (IntWalk.i64_in _ (by omega)).trans hkr
  have f0 : (w.alloc (.cells #[.string contact, .bool kept, .string name, .slice GA groups.length gc, .int .i64 o, .int .u64 n, .int .i64 i, .int .u64 m] 54)).cell? ⟨w.heap.size, 0, none⟩ = some (.string contact) := blk_cell st.ebx 0
  clear C st h hg hs hn hB hkp he hsq hge hq hl hgA hlo hnm hr2 hrest hrl hkl hlt hQ hb0 hbA hne ho8 hkr
  subst hk
  go_enter Tryz.func102, Tryz.ntmps102
  go_wp2_with fail
  refine HC.out.mono ?_
  rintro r w1 ⟨rfl, hb1⟩
  have st := HS.out.below hb1
  clear HS HC f0
  have HS := Lib.hid st
  have f0 : w1.cell? ⟨w.heap.size, 0, none⟩ = some (.string contact) := blk_cell st.ebx 0
  have f1 : w1.cell? ⟨w.heap.size, 1, none⟩ = some (.bool true) := blk_cell st.ebx 1
  have f2 : w1.cell? ⟨w.heap.size, 2, none⟩ = some (.string name) := blk_cell st.ebx 2
  have f3 : w1.cell? ⟨w.heap.size, 3, none⟩ = some (.slice GA groups.length gc) := blk_cell st.ebx 3
  have f4 : w1.cell? ⟨w.heap.size, 4, none⟩ = some (.int .i64 o) := blk_cell st.ebx 4
  have f5 : w1.cell? ⟨w.heap.size, 5, none⟩ = some (.int .u64 n) := blk_cell st.ebx 5
  have f6 : w1.cell? ⟨w.heap.size, 6, none⟩ = some (.int .i64 i) := blk_cell st.ebx 6
  have f7 : w1.cell? ⟨w.heap.size, 7, none⟩ = some (.int .u64 m) := blk_cell st.ebx 7
  have yy : w1.cell? ⟨qb, 4, none⟩ = some (.slice A0 R.rows.length c0) := blk_cell st.box 4
  have kk := Hh.out.2
  clear st hb1
  obtain ⟨i0, hi0, hz0, hz1, hz2⟩ := info_parts entInfo
  go_wp2_with (at_builtin; refine wpList_append_src _ rfl _ _ 49 rfl (w.heap.size + 1) 54 i0 (.agg #[.string ⟨#[]⟩, .bool false, .string ⟨#[]⟩, .slice none 0 0, .int .i64 0, .int .u64 0, .int .i64 0, .int .u64 0]) 8 96 Tryz.underlying49 hi0 hz0 hz1 hz2 rfl _ 0 [] rfl HS.out.s1 A0 k c0 ((flatE es).take (k * 8)) rfl ((HS.out.old HEN.out.2.1 Hh.out.1 (by decide)).src _ (fun u hu => flatE_one HEN.out.2.2.2.1 (List.mem_of_mem_take hu))) (by have := HK.out; unfold maxLen; omega) (by have := HK.out; omega) (by have := HS.out.upd.size; simpa using this) ?_)
  intro v' w2 hs hg
  try simp only [Nat.zero_add, List.nil_append] at hs
  obtain ⟨P, q, rfl⟩ := hs.shape
  have hst := HS.out.grow (by simpa using hs) hg
  clear HS hs hg yy kk
  have HS := Lib.hid hst
  clear f0 f1 f2 f3 f4 f5 f6 f7
  have f0 : w2.cell? ⟨w.heap.size, 0, none⟩ = some (.string contact) := blk_cell hst.ebx 0
  have f1 : w2.cell? ⟨w.heap.size, 1, none⟩ = some (.bool true) := blk_cell hst.ebx 1
  have f2 : w2.cell? ⟨w.heap.size, 2, none⟩ = some (.string name) := blk_cell hst.ebx 2
  have f3 : w2.cell? ⟨w.heap.size, 3, none⟩ = some (.slice GA groups.length gc) := blk_cell hst.ebx 3
  have f4 : w2.cell? ⟨w.heap.size, 4, none⟩ = some (.int .i64 o) := blk_cell hst.ebx 4
  have f5 : w2.cell? ⟨w.heap.size, 5, none⟩ = some (.int .u64 n) := blk_cell hst.ebx 5
  have f6 : w2.cell? ⟨w.heap.size, 6, none⟩ = some (.int .i64 i) := blk_cell hst.ebx 6
  have f7 : w2.cell? ⟨w.heap.size, 7, none⟩ = some (.int .u64 m) := blk_cell hst.ebx 7
  have yy : w2.cell? ⟨qb, 4, none⟩ = some (.slice A0 R.rows.length c0) := blk_cell hst.box 4
  have zz : w2.frozen? ⟨qb, 4, none⟩ = false := blk_frozen hst.box 4
  have kk := Hl.out.2
  clear hst
  go_wp2_with (at_builtin; refine wpList_append_seq _ rfl _ _ 49 rfl (w.heap.size + 1) 54 i0 (.agg #[.string ⟨#[]⟩, .bool false, .string ⟨#[]⟩, .slice none 0 0, .int .i64 0, .int .u64 0, .int .i64 0, .int .u64 0]) 8 96 Tryz.underlying49 hi0 hz0 hz1 hz2 rfl _ k ((flatE es).take (k * 8)) rfl (HS.out.alloc _).s1 ⟨w2.heap.size, 0, none⟩ 1 1 [.string contact, .bool true, .string name, .slice GA groups.length gc, .int .i64 o, .int .u64 n, .int .i64 i, .int .u64 m] rfl rfl ?c1 ?c2 (by decide) (by have := HK.out; unfold maxLen; omega) (by have := HK.out; omega) (by have := HS.out.upd.size; simp at this ⊢; omega) ?_)
  case c1 => intro j u hu; match j, hu with | 0, hu => simpa [go_sem, Addr.add] using hu | 1, hu => simpa [go_sem, Addr.add] using hu | 2, hu => simpa [go_sem, Addr.add] using hu | 3, hu => simpa [go_sem, Addr.add] using hu | 4, hu => simpa [go_sem, Addr.add] using hu | 5, hu => simpa [go_sem, Addr.add] using hu | 6, hu => simpa [go_sem, Addr.add] using hu | 7, hu => simpa [go_sem, Addr.add] using hu
  case c2 => intro u hu; simp at hu; rcases hu with rfl | rfl | rfl | rfl | rfl | rfl | rfl | rfl <;> rfl
  intro v' w3 hs hg _
  obtain ⟨P2, q2, rfl⟩ := hs.shape
  have hst := (HS.out.alloc _).grow (by simpa using hs) hg
  clear HS hs hg yy zz kk f0 f1 f2 f3 f4 f5 f6 f7
  have HS := Lib.hid hst
  have yy : w3.cell? ⟨qb, 4, none⟩ = some (.slice A0 R.rows.length c0) := blk_cell hst.box 4
  have kk := Hl.out.2
  clear hst
  go_wp2_with (at_builtin; refine wpList_append_src _ rfl _ _ 49 rfl (w.heap.size + 1) 54 i0 (.agg #[.string ⟨#[]⟩, .bool false, .string ⟨#[]⟩, .slice none 0 0, .int .i64 0, .int .u64 0, .int .i64 0, .int .u64 0]) 8 96 Tryz.underlying49 hi0 hz0 hz1 hz2 rfl _ (k + 1) (((flatE es).take (k * 8)) ++ [Value.string contact, Value.bool true, Value.string name, Value.slice GA groups.length gc, Value.int .i64 o, Value.int .u64 n, Value.int .i64 i, Value.int .u64 m]) rfl HS.out.s1 D (R.rows.length - rest) (c0 - rest) ((flatE es).drop (rest * 8)) rfl ((HS.out.old HEN.out.2.1 Hl.out.1 (by decide)).src _ (fun u hu => flatE_one HEN.out.2.2.2.1 (List.mem_of_mem_drop hu))) (by have := HK.out; unfold maxLen; omega) (by have := HK.out; omega) (by have := HS.out.upd.size; simpa using this) ?_)
  intro v' w4 hs hg
  obtain ⟨P, q, rfl⟩ := hs.shape
  have hst := HS.out.grow (by simpa using hs) hg
  clear HS hs hg yy kk
  have HS := Lib.hid hst
  have yy : w4.cell? ⟨qb, 4, none⟩ = some (.slice A0 R.rows.length c0) := blk_cell hst.box 4
  have zz : w4.frozen? ⟨qb, 4, none⟩ = false := blk_frozen hst.box 4
  have hfin := hst.store 4 (.slice P ((k + 1) + (R.rows.length - rest)) q) HNE.out
  clear hst HS
  have HS := Lib.hid hfin
  clear hfin
  go_wp2_with fail
  go_end0
  obtain ⟨hnm, hq, he, hge, hgA, hkp, hr2, hlo, hbA⟩ := HEN.out
  refine ⟨rfl, set16_end hnm hq he hge hgA (fun k hk => by have := HX.out k hk; simp; omega) true (rfl) hkp hr2 HS.out (by simp) (by have := HK.out; simp; omega) hlo, ?_⟩
  exact Upd.trans (Upd.of_below hbA (Nat.le_refl _)) HS.out.upd (by simp)

set_option maxRecDepth 100000 in
set_option maxHeartbeats 8000000 in
theorem q16set_yi {w : World} {B qb : Nat} {X : Nat → Prop} {R : RS} (h : QAt w B X qb R) (e : Ent) (g : Value) (hg : GrpX w B X g e.groups) (hX : ∀ k, X k → k < w.heap.size) (hn : R.rows.length ≤ 1000000) (hB : B ≤ w.heap.size) (hs : (R.get e.contact).isSome = true) (hk : e.kept = false) (hi : e.half.i ≠ 0) :
    Calls Tryz.prog 102 #[.pointer (some ⟨qb, 0, none⟩), e.val g] w fun r w' => r = .returned (.tuple #[]) ∧ QAt w' B X qb (R.set e) ∧ Upd w.heap.size (fun k => k = qb) w w' := by
  obtain ⟨GA, gc, rfl⟩ := hg.shape
  obtain ⟨contact, kept, name, groups, ⟨o, n, i, m⟩⟩ := e
  simp only at hg hs hk hi⊢
  obtain ⟨o8, ho8⟩ : ∃ o8 : Obj, (.cells #[.string contact, .bool kept, .string name, .slice GA groups.length gc, .int .i64 o, .int .u64 n, .int .i64 i, .int .u64 m] 54) = o8 := ⟨_, rfl⟩
  have hbA : Below w.heap.size w (w.alloc o8) := (Below.refl _ _).alloc (Nat.le_refl _) _
  have hb0 : (w.alloc o8).heap[w.heap.size]? = some o8 := blk_new _ _
  have hQ := h.below hbA
  have C := q16at_any hQ contact hn
  rw [hs] at C
  obtain ⟨k, hkp⟩ : ∃ k, R.at contact = k := ⟨_, rfl⟩
  rw [hkp] at C
  obtain ⟨A0, c0, hq, es, he, hsq, hfr, hge⟩ := hQ.open
  have hkl : k ≤ R.rows.length := by rw [← hkp]; exact Srt.pos_le _ _
  have hlt := hQ.lt
  have hrl : k + 1 ≤ R.rows.length := by
    obtain ⟨r, h1, _⟩ := Srt.isAt_split (show Srt.isAt Ent.contact R.rows contact = true by rw [h.nm.is, hs])
    have := (List.getElem?_eq_some_iff.1 h1).1
    have e : Srt.pos Ent.contact R.rows contact = k := hkp
    omega
  obtain ⟨rest, hrest⟩ : ∃ rest, k + 1 = rest := ⟨_, rfl⟩
  rw [hrest] at hrl
  have Hh := Lib.hid (hsq.cut_h (k := k) cutEnt.1 cutEnt.2 hkl)
  obtain ⟨D, hl⟩ := hsq.cut_l (k := rest) cutEnt.1 cutEnt.2 hrl
  have Hl := Lib.hid hl
  have hgA := hg.below hbA
  have hlo := h.lo
  have hnm := h.nm
  have hr2 : R.at contact + (if (R.get contact).isSome = true then 1 else 0) = rest := by rw [hs, hkp, ← hrest]; rfl
  have HEN := Lib.hid (And.intro hnm (And.intro hq (And.intro he (And.intro hge (And.intro hgA (And.intro hkp (And.intro hr2 (And.intro hlo hbA))))))))
  have HK := Lib.hid (And.intro hkl (And.intro hrl (And.intro hn (And.intro hB hrest))))
  have hne : qb ≠ w.heap.size := by have := h.lt; omega
  have st : SetS (w.alloc o8) (w.alloc o8) qb w.heap.size #[.int .i64 R.items, .int .i64 R.asks, .int .u64 R.ver, .int .u64 R.next, .slice A0 R.rows.length c0] #[.string contact, .bool kept, .string name, .slice GA groups.length gc, .int .i64 o, .int .u64 n, .int .i64 i, .int .u64 m] (.slice none 0 0) 0 [] :=
    ⟨Upd.refl _ _ _, ⟨hlt, by simp⟩, hq, by rw [hb0, ← ho8], Seq.nil _ _ _ _⟩
  rw [← ho8] at C st Hh Hl HEN
  have HC := Lib.hid C
  have HS := Lib.hid st
  have HNE := Lib.hid hne
  have HX := Lib.hid hX
  clear hX hfr
  have hkr : (k : Int) + 1 = (rest : Int) := by omega
  have hw : IntKind.i64.wrap ((k : Int) + 1) = (rest : Int) := (IntWalk.i64_in _ (by omega)).trans hkr
  have f0 : (w.alloc (.cells #[.string contact, .bool kept, .string name, .slice GA groups.length gc, .int .i64 o, .int .u64 n, .int .i64 i, .int .u64 m] 54)).cell? ⟨w.heap.size, 0, none⟩ = some (.string contact) := blk_cell st.ebx 0
  clear C st h hg hs hn hB hkp he hsq hge hq hl hgA hlo hnm hr2 hrest hrl hkl hlt hQ hb0 hbA hne ho8 hkr
  subst hk
  have hib : (i != 0) = true := by simp [hi]
  have HI := Lib.hid hi
  clear hi
  go_enter Tryz.func102, Tryz.ntmps102
  go_wp2_with fail
  refine HC.out.mono ?_
  rintro r w1 ⟨rfl, hb1⟩
  have st := HS.out.below hb1
  clear HS HC f0
  have HS := Lib.hid st
  have f0 : w1.cell? ⟨w.heap.size, 0, none⟩ = some (.string contact) := blk_cell st.ebx 0
  have f1 : w1.cell? ⟨w.heap.size, 1, none⟩ = some (.bool false) := blk_cell st.ebx 1
  have f2 : w1.cell? ⟨w.heap.size, 2, none⟩ = some (.string name) := blk_cell st.ebx 2
  have f3 : w1.cell? ⟨w.heap.size, 3, none⟩ = some (.slice GA groups.length gc) := blk_cell st.ebx 3
  have f4 : w1.cell? ⟨w.heap.size, 4, none⟩ = some (.int .i64 o) := blk_cell st.ebx 4
  have f5 : w1.cell? ⟨w.heap.size, 5, none⟩ = some (.int .u64 n) := blk_cell st.ebx 5
  have f6 : w1.cell? ⟨w.heap.size, 6, none⟩ = some (.int .i64 i) := blk_cell st.ebx 6
  have f7 : w1.cell? ⟨w.heap.size, 7, none⟩ = some (.int .u64 m) := blk_cell st.ebx 7
  have yy : w1.cell? ⟨qb, 4, none⟩ = some (.slice A0 R.rows.length c0) := blk_cell st.box 4
  have kk := Hh.out.2
  clear st hb1
  obtain ⟨i0, hi0, hz0, hz1, hz2⟩ := info_parts entInfo
  go_wp2_with (at_builtin; refine wpList_append_src _ rfl _ _ 49 rfl (w.heap.size + 1) 54 i0 (.agg #[.string ⟨#[]⟩, .bool false, .string ⟨#[]⟩, .slice none 0 0, .int .i64 0, .int .u64 0, .int .i64 0, .int .u64 0]) 8 96 Tryz.underlying49 hi0 hz0 hz1 hz2 rfl _ 0 [] rfl HS.out.s1 A0 k c0 ((flatE es).take (k * 8)) rfl ((HS.out.old HEN.out.2.1 Hh.out.1 (by decide)).src _ (fun u hu => flatE_one HEN.out.2.2.2.1 (List.mem_of_mem_take hu))) (by have := HK.out; unfold maxLen; omega) (by have := HK.out; omega) (by have := HS.out.upd.size; simpa using this) ?_)
  intro v' w2 hs hg
  try simp only [Nat.zero_add, List.nil_append] at hs
  obtain ⟨P, q, rfl⟩ := hs.shape
  have hst := HS.out.grow (by simpa using hs) hg
  clear HS hs hg yy kk
  have HS := Lib.hid hst
  clear f0 f1 f2 f3 f4 f5 f6 f7
  have f0 : w2.cell? ⟨w.heap.size, 0, none⟩ = some (.string contact) := blk_cell hst.ebx 0
  have f1 : w2.cell? ⟨w.heap.size, 1, none⟩ = some (.bool false) := blk_cell hst.ebx 1
  have f2 : w2.cell? ⟨w.heap.size, 2, none⟩ = some (.string name) := blk_cell hst.ebx 2
  have f3 : w2.cell? ⟨w.heap.size, 3, none⟩ = some (.slice GA groups.length gc) := blk_cell hst.ebx 3
  have f4 : w2.cell? ⟨w.heap.size, 4, none⟩ = some (.int .i64 o) := blk_cell hst.ebx 4
  have f5 : w2.cell? ⟨w.heap.size, 5, none⟩ = some (.int .u64 n) := blk_cell hst.ebx 5
  have f6 : w2.cell? ⟨w.heap.size, 6, none⟩ = some (.int .i64 i) := blk_cell hst.ebx 6
  have f7 : w2.cell? ⟨w.heap.size, 7, none⟩ = some (.int .u64 m) := blk_cell hst.ebx 7
  have yy : w2.cell? ⟨qb, 4, none⟩ = some (.slice A0 R.rows.length c0) := blk_cell hst.box 4
  have zz : w2.frozen? ⟨qb, 4, none⟩ = false := blk_frozen hst.box 4
  have kk := Hl.out.2
  clear hst
  go_wp2_with (at_builtin; refine wpList_append_seq _ rfl _ _ 49 rfl (w.heap.size + 1) 54 i0 (.agg #[.string ⟨#[]⟩, .bool false, .string ⟨#[]⟩, .slice none 0 0, .int .i64 0, .int .u64 0, .int .i64 0, .int .u64 0]) 8 96 Tryz.underlying49 hi0 hz0 hz1 hz2 rfl _ k ((flatE es).take (k * 8)) rfl (HS.out.alloc _).s1 ⟨w2.heap.size, 0, none⟩ 1 1 [.string contact, .bool false, .string name, .slice GA groups.length gc, .int .i64 o, .int .u64 n, .int .i64 i, .int .u64 m] rfl rfl ?c1 ?c2 (by decide) (by have := HK.out; unfold maxLen; omega) (by have := HK.out; omega) (by have := HS.out.upd.size; simp at this ⊢; omega) ?_)
  case c1 => intro j u hu; match j, hu with | 0, hu => simpa [go_sem, Addr.add] using hu | 1, hu => simpa [go_sem, Addr.add] using hu | 2, hu => simpa [go_sem, Addr.add] using hu | 3, hu => simpa [go_sem, Addr.add] using hu | 4, hu => simpa [go_sem, Addr.add] using hu | 5, hu => simpa [go_sem, Addr.add] using hu | 6, hu => simpa [go_sem, Addr.add] using hu | 7, hu => simpa [go_sem, Addr.add] using hu
  case c2 => intro u hu; simp at hu; rcases hu with rfl | rfl | rfl | rfl | rfl | rfl | rfl | rfl <;> rfl
  intro v' w3 hs hg _
  obtain ⟨P2, q2, rfl⟩ := hs.shape
  have hst := (HS.out.alloc _).grow (by simpa using hs) hg
  clear HS hs hg yy zz kk f0 f1 f2 f3 f4 f5 f6 f7
  have HS := Lib.hid hst
  have yy : w3.cell? ⟨qb, 4, none⟩ = some (.slice A0 R.rows.length c0) := blk_cell hst.box 4
  have kk := Hl.out.2
  clear hst
  go_wp2_with (at_builtin; refine wpList_append_src _ rfl _ _ 49 rfl (w.heap.size + 1) 54 i0 (.agg #[.string ⟨#[]⟩, .bool false, .string ⟨#[]⟩, .slice none 0 0, .int .i64 0, .int .u64 0, .int .i64 0, .int .u64 0]) 8 96 Tryz.underlying49 hi0 hz0 hz1 hz2 rfl _ (k + 1) (((flatE es).take (k * 8)) ++ [Value.string contact, Value.bool false, Value.string name, Value.slice GA groups.length gc, Value.int .i64 o, Value.int .u64 n, Value.int .i64 i, Value.int .u64 m]) rfl HS.out.s1 D (R.rows.length - rest) (c0 - rest) ((flatE es).drop (rest * 8)) rfl ((HS.out.old HEN.out.2.1 Hl.out.1 (by decide)).src _ (fun u hu => flatE_one HEN.out.2.2.2.1 (List.mem_of_mem_drop hu))) (by have := HK.out; unfold maxLen; omega) (by have := HK.out; omega) (by have := HS.out.upd.size; simpa using this) ?_)
  intro v' w4 hs hg
  obtain ⟨P, q, rfl⟩ := hs.shape
  have hst := HS.out.grow (by simpa using hs) hg
  clear HS hs hg yy kk
  have HS := Lib.hid hst
  have yy : w4.cell? ⟨qb, 4, none⟩ = some (.slice A0 R.rows.length c0) := blk_cell hst.box 4
  have zz : w4.frozen? ⟨qb, 4, none⟩ = false := blk_frozen hst.box 4
  have hfin := hst.store 4 (.slice P ((k + 1) + (R.rows.length - rest)) q) HNE.out
  clear hst HS
  have HS := Lib.hid hfin
  clear hfin
  go_wp2_with fail
  go_end0
  obtain ⟨hnm, hq, he, hge, hgA, hkp, hr2, hlo, hbA⟩ := HEN.out
  refine ⟨rfl, set16_end hnm hq he hge hgA (fun k hk => by have := HX.out k hk; simp; omega) true (by simp [HI.out]) hkp hr2 HS.out (by simp) (by have := HK.out; simp; omega) hlo, ?_⟩
  exact Upd.trans (Upd.of_below hbA (Nat.le_refl _)) HS.out.upd (by simp)

set_option maxRecDepth 100000 in
set_option maxHeartbeats 8000000 in
theorem q16set_y_ {w : World} {B qb : Nat} {X : Nat → Prop} {R : RS} (h : QAt w B X qb R) (e : Ent) (g : Value) (hg : GrpX w B X g e.groups) (hX : ∀ k, X k → k < w.heap.size) (hn : R.rows.length ≤ 1000000) (hB : B ≤ w.heap.size) (hs : (R.get e.contact).isSome = true) (hk : e.kept = false) (hi : e.half.i = 0) :
    Calls Tryz.prog 102 #[.pointer (some ⟨qb, 0, none⟩), e.val g] w fun r w' => r = .returned (.tuple #[]) ∧ QAt w' B X qb (R.set e) ∧ Upd w.heap.size (fun k => k = qb) w w' := by
  obtain ⟨GA, gc, rfl⟩ := hg.shape
  obtain ⟨contact, kept, name, groups, ⟨o, n, i, m⟩⟩ := e
  simp only at hg hs hk hi⊢
  obtain ⟨o8, ho8⟩ : ∃ o8 : Obj, (.cells #[.string contact, .bool kept, .string name, .slice GA groups.length gc, .int .i64 o, .int .u64 n, .int .i64 i, .int .u64 m] 54) = o8 := ⟨_, rfl⟩
  have hbA : Below w.heap.size w (w.alloc o8) := (Below.refl _ _).alloc (Nat.le_refl _) _
  have hb0 : (w.alloc o8).heap[w.heap.size]? = some o8 := blk_new _ _
  have hQ := h.below hbA
  have C := q16at_any hQ contact hn
  rw [hs] at C
  obtain ⟨k, hkp⟩ : ∃ k, R.at contact = k := ⟨_, rfl⟩
  rw [hkp] at C
  obtain ⟨A0, c0, hq, es, he, hsq, hfr, hge⟩ := hQ.open
  have hkl : k ≤ R.rows.length := by rw [← hkp]; exact Srt.pos_le _ _
  have hlt := hQ.lt
  have hrl : k + 1 ≤ R.rows.length := by
    obtain ⟨r, h1, _⟩ := Srt.isAt_split (show Srt.isAt Ent.contact R.rows contact = true by rw [h.nm.is, hs])
    have := (List.getElem?_eq_some_iff.1 h1).1
    have e : Srt.pos Ent.contact R.rows contact = k := hkp
    omega
  obtain ⟨rest, hrest⟩ : ∃ rest, k + 1 = rest := ⟨_, rfl⟩
  rw [hrest] at hrl
  have Hh := Lib.hid (hsq.cut_h (k := k) cutEnt.1 cutEnt.2 hkl)
  obtain ⟨D, hl⟩ := hsq.cut_l (k := rest) cutEnt.1 cutEnt.2 hrl
  have Hl := Lib.hid hl
  have hgA := hg.below hbA
  have hlo := h.lo
  have hnm := h.nm
  have hr2 : R.at contact + (if (R.get contact).isSome = true then 1 else 0) = rest := by rw [hs, hkp, ← hrest]; rfl
  have HEN := Lib.hid (And.intro hnm (And.intro hq (And.intro he (And.intro hge (And.intro hgA (And.intro hkp (And.intro hr2 (And.intro hlo hbA))))))))
  have HK := Lib.hid (And.intro hkl (And.intro hrl (And.intro hn (And.intro hB hrest))))
  have hne : qb ≠ w.heap.size := by have := h.lt; omega
  have st : SetS (w.alloc o8) (w.alloc o8) qb w.heap.size #[.int .i64 R.items, .int .i64 R.asks, .int .u64 R.ver, .int .u64 R.next, .slice A0 R.rows.length c0] #[.string contact, .bool kept, .string name, .slice GA groups.length gc, .int .i64 o, .int .u64 n, .int .i64 i, .int .u64 m] (.slice none 0 0) 0 [] :=
    ⟨Upd.refl _ _ _, ⟨hlt, by simp⟩, hq, by rw [hb0, ← ho8], Seq.nil _ _ _ _⟩
  rw [← ho8] at C st Hh Hl HEN
  have HC := Lib.hid C
  have HS := Lib.hid st
  have HNE := Lib.hid hne
  have HX := Lib.hid hX
  clear hX hfr
  have hkr : (k : Int) + 1 = (rest : Int) := by omega
  have hw : IntKind.i64.wrap ((k : Int) + 1) = (rest : Int) := (IntWalk.i64_in _ (by omega)).trans hkr
  have f0 : (w.alloc (.cells #[.string contact, .bool kept, .string name, .slice GA groups.length gc, .int .i64 o, .int .u64 n, .int .i64 i, .int .u64 m] 54)).cell? ⟨w.heap.size, 0, none⟩ = some (.string contact) := blk_cell st.ebx 0
  clear C st h hg hs hn hB hkp he hsq hge hq hl hgA hlo hnm hr2 hrest hrl hkl hlt hQ hb0 hbA hne ho8 hkr
  subst hk
  have hib : (i != 0) = false := by simp [hi]
  have HI := Lib.hid hi
  clear hi
  go_enter Tryz.func102, Tryz.ntmps102
  go_wp2_with fail
  refine HC.out.mono ?_
  rintro r w1 ⟨rfl, hb1⟩
  have st := HS.out.below hb1
  clear HS HC f0
  have HS := Lib.hid st
  have f0 : w1.cell? ⟨w.heap.size, 0, none⟩ = some (.string contact) := blk_cell st.ebx 0
  have f1 : w1.cell? ⟨w.heap.size, 1, none⟩ = some (.bool false) := blk_cell st.ebx 1
  have f2 : w1.cell? ⟨w.heap.size, 2, none⟩ = some (.string name) := blk_cell st.ebx 2
  have f3 : w1.cell? ⟨w.heap.size, 3, none⟩ = some (.slice GA groups.length gc) := blk_cell st.ebx 3
  have f4 : w1.cell? ⟨w.heap.size, 4, none⟩ = some (.int .i64 o) := blk_cell st.ebx 4
  have f5 : w1.cell? ⟨w.heap.size, 5, none⟩ = some (.int .u64 n) := blk_cell st.ebx 5
  have f6 : w1.cell? ⟨w.heap.size, 6, none⟩ = some (.int .i64 i) := blk_cell st.ebx 6
  have f7 : w1.cell? ⟨w.heap.size, 7, none⟩ = some (.int .u64 m) := blk_cell st.ebx 7
  have yy : w1.cell? ⟨qb, 4, none⟩ = some (.slice A0 R.rows.length c0) := blk_cell st.box 4
  have kk := Hh.out.2
  clear st hb1
  obtain ⟨i0, hi0, hz0, hz1, hz2⟩ := info_parts entInfo
  go_wp2_with (at_builtin; refine wpList_append_src _ rfl _ _ 49 rfl (w.heap.size + 1) 54 i0 (.agg #[.string ⟨#[]⟩, .bool false, .string ⟨#[]⟩, .slice none 0 0, .int .i64 0, .int .u64 0, .int .i64 0, .int .u64 0]) 8 96 Tryz.underlying49 hi0 hz0 hz1 hz2 rfl _ 0 [] rfl HS.out.s1 A0 k c0 ((flatE es).take (k * 8)) rfl ((HS.out.old HEN.out.2.1 Hh.out.1 (by decide)).src _ (fun u hu => flatE_one HEN.out.2.2.2.1 (List.mem_of_mem_take hu))) (by have := HK.out; unfold maxLen; omega) (by have := HK.out; omega) (by have := HS.out.upd.size; simpa using this) ?_)
  intro v' w2 hs hg
  try simp only [Nat.zero_add, List.nil_append] at hs
  obtain ⟨P, q, rfl⟩ := hs.shape
  have hst := HS.out.grow (by simpa using hs) hg
  clear HS hs hg yy kk
  have HS := Lib.hid hst
  clear f0 f1 f2 f3 f4 f5 f6 f7
  have f0 : w2.cell? ⟨w.heap.size, 0, none⟩ = some (.string contact) := blk_cell hst.ebx 0
  have f1 : w2.cell? ⟨w.heap.size, 1, none⟩ = some (.bool false) := blk_cell hst.ebx 1
  have f2 : w2.cell? ⟨w.heap.size, 2, none⟩ = some (.string name) := blk_cell hst.ebx 2
  have f3 : w2.cell? ⟨w.heap.size, 3, none⟩ = some (.slice GA groups.length gc) := blk_cell hst.ebx 3
  have f4 : w2.cell? ⟨w.heap.size, 4, none⟩ = some (.int .i64 o) := blk_cell hst.ebx 4
  have f5 : w2.cell? ⟨w.heap.size, 5, none⟩ = some (.int .u64 n) := blk_cell hst.ebx 5
  have f6 : w2.cell? ⟨w.heap.size, 6, none⟩ = some (.int .i64 i) := blk_cell hst.ebx 6
  have f7 : w2.cell? ⟨w.heap.size, 7, none⟩ = some (.int .u64 m) := blk_cell hst.ebx 7
  have yy : w2.cell? ⟨qb, 4, none⟩ = some (.slice A0 R.rows.length c0) := blk_cell hst.box 4
  have zz : w2.frozen? ⟨qb, 4, none⟩ = false := blk_frozen hst.box 4
  have kk := Hl.out.2
  clear hst
  go_wp2_with (at_builtin; refine wpList_append_src _ rfl _ _ 49 rfl (w.heap.size + 1) 54 i0 (.agg #[.string ⟨#[]⟩, .bool false, .string ⟨#[]⟩, .slice none 0 0, .int .i64 0, .int .u64 0, .int .i64 0, .int .u64 0]) 8 96 Tryz.underlying49 hi0 hz0 hz1 hz2 rfl _ k ((flatE es).take (k * 8)) rfl HS.out.s1 D (R.rows.length - rest) (c0 - rest) ((flatE es).drop (rest * 8)) rfl ((HS.out.old HEN.out.2.1 Hl.out.1 (by decide)).src _ (fun u hu => flatE_one HEN.out.2.2.2.1 (List.mem_of_mem_drop hu))) (by have := HK.out; unfold maxLen; omega) (by have := HK.out; omega) (by have := HS.out.upd.size; simpa using this) ?_)
  intro v' w4 hs hg
  obtain ⟨P, q, rfl⟩ := hs.shape
  have hst := HS.out.grow (by simpa using hs) hg
  clear HS hs hg yy kk
  have HS := Lib.hid hst
  have yy : w4.cell? ⟨qb, 4, none⟩ = some (.slice A0 R.rows.length c0) := blk_cell hst.box 4
  have zz : w4.frozen? ⟨qb, 4, none⟩ = false := blk_frozen hst.box 4
  have hfin := hst.store 4 (.slice P (k + (R.rows.length - rest)) q) HNE.out
  clear hst HS
  have HS := Lib.hid hfin
  clear hfin
  go_wp2_with fail
  go_end0
  obtain ⟨hnm, hq, he, hge, hgA, hkp, hr2, hlo, hbA⟩ := HEN.out
  refine ⟨rfl, set16_end hnm hq he hge hgA (fun k hk => by have := HX.out k hk; simp; omega) false (by simp [HI.out]) hkp hr2 HS.out (by simp) (by have := HK.out; simp; omega) hlo, ?_⟩
  exact Upd.trans (Upd.of_below hbA (Nat.le_refl _)) HS.out.upd (by simp)

set_option maxRecDepth 100000 in
set_option maxHeartbeats 8000000 in
theorem q16set_nk {w : World} {B qb : Nat} {X : Nat → Prop} {R : RS} (h : QAt w B X qb R) (e : Ent) (g : Value) (hg : GrpX w B X g e.groups) (hX : ∀ k, X k → k < w.heap.size) (hn : R.rows.length ≤ 1000000) (hB : B ≤ w.heap.size) (hs : (R.get e.contact).isSome = false) (hk : e.kept = true) :
    Calls Tryz.prog 102 #[.pointer (some ⟨qb, 0, none⟩), e.val g] w fun r w' => r = .returned (.tuple #[]) ∧ QAt w' B X qb (R.set e) ∧ Upd w.heap.size (fun k => k = qb) w w' := by
  obtain ⟨GA, gc, rfl⟩ := hg.shape
  obtain ⟨contact, kept, name, groups, ⟨o, n, i, m⟩⟩ := e
  simp only at hg hs hk ⊢
  obtain ⟨o8, ho8⟩ : ∃ o8 : Obj, (.cells #[.string contact, .bool kept, .string name, .slice GA groups.length gc, .int .i64 o, .int .u64 n, .int .i64 i, .int .u64 m] 54) = o8 := ⟨_, rfl⟩
  have hbA : Below w.heap.size w (w.alloc o8) := (Below.refl _ _).alloc (Nat.le_refl _) _
  have hb0 : (w.alloc o8).heap[w.heap.size]? = some o8 := blk_new _ _
  have hQ := h.below hbA
  have C := q16at_any hQ contact hn
  rw [hs] at C
  obtain ⟨k, hkp⟩ : ∃ k, R.at contact = k := ⟨_, rfl⟩
  rw [hkp] at C
  obtain ⟨A0, c0, hq, es, he, hsq, hfr, hge⟩ := hQ.open
  have hkl : k ≤ R.rows.length := by rw [← hkp]; exact Srt.pos_le _ _
  have hlt := hQ.lt
  have hrest : k = k := rfl
  have hrl : k ≤ R.rows.length := by omega
  have Hh := Lib.hid (hsq.cut_h (k := k) cutEnt.1 cutEnt.2 hkl)
  obtain ⟨D, hl⟩ := hsq.cut_l (k := k) cutEnt.1 cutEnt.2 hrl
  have Hl := Lib.hid hl
  have hgA := hg.below hbA
  have hlo := h.lo
  have hnm := h.nm
  have hr2 : R.at contact + (if (R.get contact).isSome = true then 1 else 0) = k := by rw [hs, hkp, ← hrest]; rfl
  have HEN := Lib.hid (And.intro hnm (And.intro hq (And.intro he (And.intro hge (And.intro hgA (And.intro hkp (And.intro hr2 (And.intro hlo hbA))))))))
  have HK := Lib.hid (And.intro hkl (And.intro hrl (And.intro hn (And.intro hB hrest))))
  have hne : qb ≠ w.heap.size := by have := h.lt; omega
  have st : SetS (w.alloc o8) (w.alloc o8) qb w.heap.size #[.int .i64 R.items, .int .i64 R.asks, .int .u64 R.ver, .int .u64 R.next, .slice A0 R.rows.length c0] #[.string contact, .bool kept, .string name, .slice GA groups.length gc, .int .i64 o, .int .u64 n, .int .i64 i, .int .u64 m] (.slice none 0 0) 0 [] :=
    ⟨Upd.refl _ _ _, ⟨hlt, by simp⟩, hq, by rw [hb0, ← ho8], Seq.nil _ _ _ _⟩
  rw [← ho8] at C st Hh Hl HEN
  have HC := Lib.hid C
  have HS := Lib.hid st
  have HNE := Lib.hid hne
  have HX := Lib.hid hX
  clear hX hfr
  have f0 : (w.alloc (.cells #[.string contact, .bool kept, .string name, .slice GA groups.length gc, .int .i64 o, .int .u64 n, .int .i64 i, .int .u64 m] 54)).cell? ⟨w.heap.size, 0, none⟩ = some (.string contact) := blk_cell st.ebx 0
  clear C st h hg hs hn hB hkp he hsq hge hq hl hgA hlo hnm hr2 hrest hrl hkl hlt hQ hb0 hbA hne ho8
  subst hk
  go_enter Tryz.func102, Tryz.ntmps102
  go_wp2_with fail
  refine HC.out.mono ?_
  rintro r w1 ⟨rfl, hb1⟩
  have st := HS.out.below hb1
  clear HS HC f0
  have HS := Lib.hid st
  have f0 : w1.cell? ⟨w.heap.size, 0, none⟩ = some (.string contact) := blk_cell st.ebx 0
  have f1 : w1.cell? ⟨w.heap.size, 1, none⟩ = some (.bool true) := blk_cell st.ebx 1
  have f2 : w1.cell? ⟨w.heap.size, 2, none⟩ = some (.string name) := blk_cell st.ebx 2
  have f3 : w1.cell? ⟨w.heap.size, 3, none⟩ = some (.slice GA groups.length gc) := blk_cell st.ebx 3
  have f4 : w1.cell? ⟨w.heap.size, 4, none⟩ = some (.int .i64 o) := blk_cell st.ebx 4
  have f5 : w1.cell? ⟨w.heap.size, 5, none⟩ = some (.int .u64 n) := blk_cell st.ebx 5
  have f6 : w1.cell? ⟨w.heap.size, 6, none⟩ = some (.int .i64 i) := blk_cell st.ebx 6
  have f7 : w1.cell? ⟨w.heap.size, 7, none⟩ = some (.int .u64 m) := blk_cell st.ebx 7
  have yy : w1.cell? ⟨qb, 4, none⟩ = some (.slice A0 R.rows.length c0) := blk_cell st.box 4
  have kk := Hh.out.2
  clear st hb1
  obtain ⟨i0, hi0, hz0, hz1, hz2⟩ := info_parts entInfo
  go_wp2_with (at_builtin; refine wpList_append_src _ rfl _ _ 49 rfl (w.heap.size + 1) 54 i0 (.agg #[.string ⟨#[]⟩, .bool false, .string ⟨#[]⟩, .slice none 0 0, .int .i64 0, .int .u64 0, .int .i64 0, .int .u64 0]) 8 96 Tryz.underlying49 hi0 hz0 hz1 hz2 rfl _ 0 [] rfl HS.out.s1 A0 k c0 ((flatE es).take (k * 8)) rfl ((HS.out.old HEN.out.2.1 Hh.out.1 (by decide)).src _ (fun u hu => flatE_one HEN.out.2.2.2.1 (List.mem_of_mem_take hu))) (by have := HK.out; unfold maxLen; omega) (by have := HK.out; omega) (by have := HS.out.upd.size; simpa using this) ?_)
  intro v' w2 hs hg
  try simp only [Nat.zero_add, List.nil_append] at hs
  obtain ⟨P, q, rfl⟩ := hs.shape
  have hst := HS.out.grow (by simpa using hs) hg
  clear HS hs hg yy kk
  have HS := Lib.hid hst
  clear f0 f1 f2 f3 f4 f5 f6 f7
  have f0 : w2.cell? ⟨w.heap.size, 0, none⟩ = some (.string contact) := blk_cell hst.ebx 0
  have f1 : w2.cell? ⟨w.heap.size, 1, none⟩ = some (.bool true) := blk_cell hst.ebx 1
  have f2 : w2.cell? ⟨w.heap.size, 2, none⟩ = some (.string name) := blk_cell hst.ebx 2
  have f3 : w2.cell? ⟨w.heap.size, 3, none⟩ = some (.slice GA groups.length gc) := blk_cell hst.ebx 3
  have f4 : w2.cell? ⟨w.heap.size, 4, none⟩ = some (.int .i64 o) := blk_cell hst.ebx 4
  have f5 : w2.cell? ⟨w.heap.size, 5, none⟩ = some (.int .u64 n) := blk_cell hst.ebx 5
  have f6 : w2.cell? ⟨w.heap.size, 6, none⟩ = some (.int .i64 i) := blk_cell hst.ebx 6
  have f7 : w2.cell? ⟨w.heap.size, 7, none⟩ = some (.int .u64 m) := blk_cell hst.ebx 7
  have yy : w2.cell? ⟨qb, 4, none⟩ = some (.slice A0 R.rows.length c0) := blk_cell hst.box 4
  have zz : w2.frozen? ⟨qb, 4, none⟩ = false := blk_frozen hst.box 4
  have kk := Hl.out.2
  clear hst
  go_wp2_with (at_builtin; refine wpList_append_seq _ rfl _ _ 49 rfl (w.heap.size + 1) 54 i0 (.agg #[.string ⟨#[]⟩, .bool false, .string ⟨#[]⟩, .slice none 0 0, .int .i64 0, .int .u64 0, .int .i64 0, .int .u64 0]) 8 96 Tryz.underlying49 hi0 hz0 hz1 hz2 rfl _ k ((flatE es).take (k * 8)) rfl (HS.out.alloc _).s1 ⟨w2.heap.size, 0, none⟩ 1 1 [.string contact, .bool true, .string name, .slice GA groups.length gc, .int .i64 o, .int .u64 n, .int .i64 i, .int .u64 m] rfl rfl ?c1 ?c2 (by decide) (by have := HK.out; unfold maxLen; omega) (by have := HK.out; omega) (by have := HS.out.upd.size; simp at this ⊢; omega) ?_)
  case c1 => intro j u hu; match j, hu with | 0, hu => simpa [go_sem, Addr.add] using hu | 1, hu => simpa [go_sem, Addr.add] using hu | 2, hu => simpa [go_sem, Addr.add] using hu | 3, hu => simpa [go_sem, Addr.add] using hu | 4, hu => simpa [go_sem, Addr.add] using hu | 5, hu => simpa [go_sem, Addr.add] using hu | 6, hu => simpa [go_sem, Addr.add] using hu | 7, hu => simpa [go_sem, Addr.add] using hu
  case c2 => intro u hu; simp at hu; rcases hu with rfl | rfl | rfl | rfl | rfl | rfl | rfl | rfl <;> rfl
  intro v' w3 hs hg _
  obtain ⟨P2, q2, rfl⟩ := hs.shape
  have hst := (HS.out.alloc _).grow (by simpa using hs) hg
  clear HS hs hg yy zz kk f0 f1 f2 f3 f4 f5 f6 f7
  have HS := Lib.hid hst
  have yy : w3.cell? ⟨qb, 4, none⟩ = some (.slice A0 R.rows.length c0) := blk_cell hst.box 4
  have kk := Hl.out.2
  clear hst
  go_wp2_with (at_builtin; refine wpList_append_src _ rfl _ _ 49 rfl (w.heap.size + 1) 54 i0 (.agg #[.string ⟨#[]⟩, .bool false, .string ⟨#[]⟩, .slice none 0 0, .int .i64 0, .int .u64 0, .int .i64 0, .int .u64 0]) 8 96 Tryz.underlying49 hi0 hz0 hz1 hz2 rfl _ (k + 1) (((flatE es).take (k * 8)) ++ [Value.string contact, Value.bool true, Value.string name, Value.slice GA groups.length gc, Value.int .i64 o, Value.int .u64 n, Value.int .i64 i, Value.int .u64 m]) rfl HS.out.s1 D (R.rows.length - k) (c0 - k) ((flatE es).drop (k * 8)) rfl ((HS.out.old HEN.out.2.1 Hl.out.1 (by decide)).src _ (fun u hu => flatE_one HEN.out.2.2.2.1 (List.mem_of_mem_drop hu))) (by have := HK.out; unfold maxLen; omega) (by have := HK.out; omega) (by have := HS.out.upd.size; simpa using this) ?_)
  intro v' w4 hs hg
  obtain ⟨P, q, rfl⟩ := hs.shape
  have hst := HS.out.grow (by simpa using hs) hg
  clear HS hs hg yy kk
  have HS := Lib.hid hst
  have yy : w4.cell? ⟨qb, 4, none⟩ = some (.slice A0 R.rows.length c0) := blk_cell hst.box 4
  have zz : w4.frozen? ⟨qb, 4, none⟩ = false := blk_frozen hst.box 4
  have hfin := hst.store 4 (.slice P ((k + 1) + (R.rows.length - k)) q) HNE.out
  clear hst HS
  have HS := Lib.hid hfin
  clear hfin
  go_wp2_with fail
  go_end0
  obtain ⟨hnm, hq, he, hge, hgA, hkp, hr2, hlo, hbA⟩ := HEN.out
  refine ⟨rfl, set16_end hnm hq he hge hgA (fun k hk => by have := HX.out k hk; simp; omega) true (rfl) hkp hr2 HS.out (by simp) (by have := HK.out; simp; omega) hlo, ?_⟩
  exact Upd.trans (Upd.of_below hbA (Nat.le_refl _)) HS.out.upd (by simp)

set_option maxRecDepth 100000 in
set_option maxHeartbeats 8000000 in
theorem q16set_ni {w : World} {B qb : Nat} {X : Nat → Prop} {R : RS} (h : QAt w B X qb R) (e : Ent) (g : Value) (hg : GrpX w B X g e.groups) (hX : ∀ k, X k → k < w.heap.size) (hn : R.rows.length ≤ 1000000) (hB : B ≤ w.heap.size) (hs : (R.get e.contact).isSome = false) (hk : e.kept = false) (hi : e.half.i ≠ 0) :
    Calls Tryz.prog 102 #[.pointer (some ⟨qb, 0, none⟩), e.val g] w fun r w' => r = .returned (.tuple #[]) ∧ QAt w' B X qb (R.set e) ∧ Upd w.heap.size (fun k => k = qb) w w' := by
  obtain ⟨GA, gc, rfl⟩ := hg.shape
  obtain ⟨contact, kept, name, groups, ⟨o, n, i, m⟩⟩ := e
  simp only at hg hs hk hi⊢
  obtain ⟨o8, ho8⟩ : ∃ o8 : Obj, (.cells #[.string contact, .bool kept, .string name, .slice GA groups.length gc, .int .i64 o, .int .u64 n, .int .i64 i, .int .u64 m] 54) = o8 := ⟨_, rfl⟩
  have hbA : Below w.heap.size w (w.alloc o8) := (Below.refl _ _).alloc (Nat.le_refl _) _
  have hb0 : (w.alloc o8).heap[w.heap.size]? = some o8 := blk_new _ _
  have hQ := h.below hbA
  have C := q16at_any hQ contact hn
  rw [hs] at C
  obtain ⟨k, hkp⟩ : ∃ k, R.at contact = k := ⟨_, rfl⟩
  rw [hkp] at C
  obtain ⟨A0, c0, hq, es, he, hsq, hfr, hge⟩ := hQ.open
  have hkl : k ≤ R.rows.length := by rw [← hkp]; exact Srt.pos_le _ _
  have hlt := hQ.lt
  have hrest : k = k := rfl
  have hrl : k ≤ R.rows.length := by omega
  have Hh := Lib.hid (hsq.cut_h (k := k) cutEnt.1 cutEnt.2 hkl)
  obtain ⟨D, hl⟩ := hsq.cut_l (k := k) cutEnt.1 cutEnt.2 hrl
  have Hl := Lib.hid hl
  have hgA := hg.below hbA
  have hlo := h.lo
  have hnm := h.nm
  have hr2 : R.at contact + (if (R.get contact).isSome = true then 1 else 0) = k := by rw [hs, hkp, ← hrest]; rfl
  have HEN := Lib.hid (And.intro hnm (And.intro hq (And.intro he (And.intro hge (And.intro hgA (And.intro hkp (And.intro hr2 (And.intro hlo hbA))))))))
  have HK := Lib.hid (And.intro hkl (And.intro hrl (And.intro hn (And.intro hB hrest))))
  have hne : qb ≠ w.heap.size := by have := h.lt; omega
  have st : SetS (w.alloc o8) (w.alloc o8) qb w.heap.size #[.int .i64 R.items, .int .i64 R.asks, .int .u64 R.ver, .int .u64 R.next, .slice A0 R.rows.length c0] #[.string contact, .bool kept, .string name, .slice GA groups.length gc, .int .i64 o, .int .u64 n, .int .i64 i, .int .u64 m] (.slice none 0 0) 0 [] :=
    ⟨Upd.refl _ _ _, ⟨hlt, by simp⟩, hq, by rw [hb0, ← ho8], Seq.nil _ _ _ _⟩
  rw [← ho8] at C st Hh Hl HEN
  have HC := Lib.hid C
  have HS := Lib.hid st
  have HNE := Lib.hid hne
  have HX := Lib.hid hX
  clear hX hfr
  have f0 : (w.alloc (.cells #[.string contact, .bool kept, .string name, .slice GA groups.length gc, .int .i64 o, .int .u64 n, .int .i64 i, .int .u64 m] 54)).cell? ⟨w.heap.size, 0, none⟩ = some (.string contact) := blk_cell st.ebx 0
  clear C st h hg hs hn hB hkp he hsq hge hq hl hgA hlo hnm hr2 hrest hrl hkl hlt hQ hb0 hbA hne ho8
  subst hk
  have hib : (i != 0) = true := by simp [hi]
  have HI := Lib.hid hi
  clear hi
  go_enter Tryz.func102, Tryz.ntmps102
  go_wp2_with fail
  refine HC.out.mono ?_
  rintro r w1 ⟨rfl, hb1⟩
  have st := HS.out.below hb1
  clear HS HC f0
  have HS := Lib.hid st
  have f0 : w1.cell? ⟨w.heap.size, 0, none⟩ = some (.string contact) := blk_cell st.ebx 0
  have f1 : w1.cell? ⟨w.heap.size, 1, none⟩ = some (.bool false) := blk_cell st.ebx 1
  have f2 : w1.cell? ⟨w.heap.size, 2, none⟩ = some (.string name) := blk_cell st.ebx 2
  have f3 : w1.cell? ⟨w.heap.size, 3, none⟩ = some (.slice GA groups.length gc) := blk_cell st.ebx 3
  have f4 : w1.cell? ⟨w.heap.size, 4, none⟩ = some (.int .i64 o) := blk_cell st.ebx 4
  have f5 : w1.cell? ⟨w.heap.size, 5, none⟩ = some (.int .u64 n) := blk_cell st.ebx 5
  have f6 : w1.cell? ⟨w.heap.size, 6, none⟩ = some (.int .i64 i) := blk_cell st.ebx 6
  have f7 : w1.cell? ⟨w.heap.size, 7, none⟩ = some (.int .u64 m) := blk_cell st.ebx 7
  have yy : w1.cell? ⟨qb, 4, none⟩ = some (.slice A0 R.rows.length c0) := blk_cell st.box 4
  have kk := Hh.out.2
  clear st hb1
  obtain ⟨i0, hi0, hz0, hz1, hz2⟩ := info_parts entInfo
  go_wp2_with (at_builtin; refine wpList_append_src _ rfl _ _ 49 rfl (w.heap.size + 1) 54 i0 (.agg #[.string ⟨#[]⟩, .bool false, .string ⟨#[]⟩, .slice none 0 0, .int .i64 0, .int .u64 0, .int .i64 0, .int .u64 0]) 8 96 Tryz.underlying49 hi0 hz0 hz1 hz2 rfl _ 0 [] rfl HS.out.s1 A0 k c0 ((flatE es).take (k * 8)) rfl ((HS.out.old HEN.out.2.1 Hh.out.1 (by decide)).src _ (fun u hu => flatE_one HEN.out.2.2.2.1 (List.mem_of_mem_take hu))) (by have := HK.out; unfold maxLen; omega) (by have := HK.out; omega) (by have := HS.out.upd.size; simpa using this) ?_)
  intro v' w2 hs hg
  try simp only [Nat.zero_add, List.nil_append] at hs
  obtain ⟨P, q, rfl⟩ := hs.shape
  have hst := HS.out.grow (by simpa using hs) hg
  clear HS hs hg yy kk
  have HS := Lib.hid hst
  clear f0 f1 f2 f3 f4 f5 f6 f7
  have f0 : w2.cell? ⟨w.heap.size, 0, none⟩ = some (.string contact) := blk_cell hst.ebx 0
  have f1 : w2.cell? ⟨w.heap.size, 1, none⟩ = some (.bool false) := blk_cell hst.ebx 1
  have f2 : w2.cell? ⟨w.heap.size, 2, none⟩ = some (.string name) := blk_cell hst.ebx 2
  have f3 : w2.cell? ⟨w.heap.size, 3, none⟩ = some (.slice GA groups.length gc) := blk_cell hst.ebx 3
  have f4 : w2.cell? ⟨w.heap.size, 4, none⟩ = some (.int .i64 o) := blk_cell hst.ebx 4
  have f5 : w2.cell? ⟨w.heap.size, 5, none⟩ = some (.int .u64 n) := blk_cell hst.ebx 5
  have f6 : w2.cell? ⟨w.heap.size, 6, none⟩ = some (.int .i64 i) := blk_cell hst.ebx 6
  have f7 : w2.cell? ⟨w.heap.size, 7, none⟩ = some (.int .u64 m) := blk_cell hst.ebx 7
  have yy : w2.cell? ⟨qb, 4, none⟩ = some (.slice A0 R.rows.length c0) := blk_cell hst.box 4
  have zz : w2.frozen? ⟨qb, 4, none⟩ = false := blk_frozen hst.box 4
  have kk := Hl.out.2
  clear hst
  go_wp2_with (at_builtin; refine wpList_append_seq _ rfl _ _ 49 rfl (w.heap.size + 1) 54 i0 (.agg #[.string ⟨#[]⟩, .bool false, .string ⟨#[]⟩, .slice none 0 0, .int .i64 0, .int .u64 0, .int .i64 0, .int .u64 0]) 8 96 Tryz.underlying49 hi0 hz0 hz1 hz2 rfl _ k ((flatE es).take (k * 8)) rfl (HS.out.alloc _).s1 ⟨w2.heap.size, 0, none⟩ 1 1 [.string contact, .bool false, .string name, .slice GA groups.length gc, .int .i64 o, .int .u64 n, .int .i64 i, .int .u64 m] rfl rfl ?c1 ?c2 (by decide) (by have := HK.out; unfold maxLen; omega) (by have := HK.out; omega) (by have := HS.out.upd.size; simp at this ⊢; omega) ?_)
  case c1 => intro j u hu; match j, hu with | 0, hu => simpa [go_sem, Addr.add] using hu | 1, hu => simpa [go_sem, Addr.add] using hu | 2, hu => simpa [go_sem, Addr.add] using hu | 3, hu => simpa [go_sem, Addr.add] using hu | 4, hu => simpa [go_sem, Addr.add] using hu | 5, hu => simpa [go_sem, Addr.add] using hu | 6, hu => simpa [go_sem, Addr.add] using hu | 7, hu => simpa [go_sem, Addr.add] using hu
  case c2 => intro u hu; simp at hu; rcases hu with rfl | rfl | rfl | rfl | rfl | rfl | rfl | rfl <;> rfl
  intro v' w3 hs hg _
  obtain ⟨P2, q2, rfl⟩ := hs.shape
  have hst := (HS.out.alloc _).grow (by simpa using hs) hg
  clear HS hs hg yy zz kk f0 f1 f2 f3 f4 f5 f6 f7
  have HS := Lib.hid hst
  have yy : w3.cell? ⟨qb, 4, none⟩ = some (.slice A0 R.rows.length c0) := blk_cell hst.box 4
  have kk := Hl.out.2
  clear hst
  go_wp2_with (at_builtin; refine wpList_append_src _ rfl _ _ 49 rfl (w.heap.size + 1) 54 i0 (.agg #[.string ⟨#[]⟩, .bool false, .string ⟨#[]⟩, .slice none 0 0, .int .i64 0, .int .u64 0, .int .i64 0, .int .u64 0]) 8 96 Tryz.underlying49 hi0 hz0 hz1 hz2 rfl _ (k + 1) (((flatE es).take (k * 8)) ++ [Value.string contact, Value.bool false, Value.string name, Value.slice GA groups.length gc, Value.int .i64 o, Value.int .u64 n, Value.int .i64 i, Value.int .u64 m]) rfl HS.out.s1 D (R.rows.length - k) (c0 - k) ((flatE es).drop (k * 8)) rfl ((HS.out.old HEN.out.2.1 Hl.out.1 (by decide)).src _ (fun u hu => flatE_one HEN.out.2.2.2.1 (List.mem_of_mem_drop hu))) (by have := HK.out; unfold maxLen; omega) (by have := HK.out; omega) (by have := HS.out.upd.size; simpa using this) ?_)
  intro v' w4 hs hg
  obtain ⟨P, q, rfl⟩ := hs.shape
  have hst := HS.out.grow (by simpa using hs) hg
  clear HS hs hg yy kk
  have HS := Lib.hid hst
  have yy : w4.cell? ⟨qb, 4, none⟩ = some (.slice A0 R.rows.length c0) := blk_cell hst.box 4
  have zz : w4.frozen? ⟨qb, 4, none⟩ = false := blk_frozen hst.box 4
  have hfin := hst.store 4 (.slice P ((k + 1) + (R.rows.length - k)) q) HNE.out
  clear hst HS
  have HS := Lib.hid hfin
  clear hfin
  go_wp2_with fail
  go_end0
  obtain ⟨hnm, hq, he, hge, hgA, hkp, hr2, hlo, hbA⟩ := HEN.out
  refine ⟨rfl, set16_end hnm hq he hge hgA (fun k hk => by have := HX.out k hk; simp; omega) true (by simp [HI.out]) hkp hr2 HS.out (by simp) (by have := HK.out; simp; omega) hlo, ?_⟩
  exact Upd.trans (Upd.of_below hbA (Nat.le_refl _)) HS.out.upd (by simp)

set_option maxRecDepth 100000 in
set_option maxHeartbeats 8000000 in
theorem q16set_n_ {w : World} {B qb : Nat} {X : Nat → Prop} {R : RS} (h : QAt w B X qb R) (e : Ent) (g : Value) (hg : GrpX w B X g e.groups) (hX : ∀ k, X k → k < w.heap.size) (hn : R.rows.length ≤ 1000000) (hB : B ≤ w.heap.size) (hs : (R.get e.contact).isSome = false) (hk : e.kept = false) (hi : e.half.i = 0) :
    Calls Tryz.prog 102 #[.pointer (some ⟨qb, 0, none⟩), e.val g] w fun r w' => r = .returned (.tuple #[]) ∧ QAt w' B X qb (R.set e) ∧ Upd w.heap.size (fun k => k = qb) w w' := by
  obtain ⟨GA, gc, rfl⟩ := hg.shape
  obtain ⟨contact, kept, name, groups, ⟨o, n, i, m⟩⟩ := e
  simp only at hg hs hk hi⊢
  obtain ⟨o8, ho8⟩ : ∃ o8 : Obj, (.cells #[.string contact, .bool kept, .string name, .slice GA groups.length gc, .int .i64 o, .int .u64 n, .int .i64 i, .int .u64 m] 54) = o8 := ⟨_, rfl⟩
  have hbA : Below w.heap.size w (w.alloc o8) := (Below.refl _ _).alloc (Nat.le_refl _) _
  have hb0 : (w.alloc o8).heap[w.heap.size]? = some o8 := blk_new _ _
  have hQ := h.below hbA
  have C := q16at_any hQ contact hn
  rw [hs] at C
  obtain ⟨k, hkp⟩ : ∃ k, R.at contact = k := ⟨_, rfl⟩
  rw [hkp] at C
  obtain ⟨A0, c0, hq, es, he, hsq, hfr, hge⟩ := hQ.open
  have hkl : k ≤ R.rows.length := by rw [← hkp]; exact Srt.pos_le _ _
  have hlt := hQ.lt
  have hrest : k = k := rfl
  have hrl : k ≤ R.rows.length := by omega
  have Hh := Lib.hid (hsq.cut_h (k := k) cutEnt.1 cutEnt.2 hkl)
  obtain ⟨D, hl⟩ := hsq.cut_l (k := k) cutEnt.1 cutEnt.2 hrl
  have Hl := Lib.hid hl
  have hgA := hg.below hbA
  have hlo := h.lo
  have hnm := h.nm
  have hr2 : R.at contact + (if (R.get contact).isSome = true then 1 else 0) = k := by rw [hs, hkp, ← hrest]; rfl
  have HEN := Lib.hid (And.intro hnm (And.intro hq (And.intro he (And.intro hge (And.intro hgA (And.intro hkp (And.intro hr2 (And.intro hlo hbA))))))))
  have HK := Lib.hid (And.intro hkl (And.intro hrl (And.intro hn (And.intro hB hrest))))
  have hne : qb ≠ w.heap.size := by have := h.lt; omega
  have st : SetS (w.alloc o8) (w.alloc o8) qb w.heap.size #[.int .i64 R.items, .int .i64 R.asks, .int .u64 R.ver, .int .u64 R.next, .slice A0 R.rows.length c0] #[.string contact, .bool kept, .string name, .slice GA groups.length gc, .int .i64 o, .int .u64 n, .int .i64 i, .int .u64 m] (.slice none 0 0) 0 [] :=
    ⟨Upd.refl _ _ _, ⟨hlt, by simp⟩, hq, by rw [hb0, ← ho8], Seq.nil _ _ _ _⟩
  rw [← ho8] at C st Hh Hl HEN
  have HC := Lib.hid C
  have HS := Lib.hid st
  have HNE := Lib.hid hne
  have HX := Lib.hid hX
  clear hX hfr
  have f0 : (w.alloc (.cells #[.string contact, .bool kept, .string name, .slice GA groups.length gc, .int .i64 o, .int .u64 n, .int .i64 i, .int .u64 m] 54)).cell? ⟨w.heap.size, 0, none⟩ = some (.string contact) := blk_cell st.ebx 0
  clear C st h hg hs hn hB hkp he hsq hge hq hl hgA hlo hnm hr2 hrest hrl hkl hlt hQ hb0 hbA hne ho8
  subst hk
  have hib : (i != 0) = false := by simp [hi]
  have HI := Lib.hid hi
  clear hi
  go_enter Tryz.func102, Tryz.ntmps102
  go_wp2_with fail
  refine HC.out.mono ?_
  rintro r w1 ⟨rfl, hb1⟩
  have st := HS.out.below hb1
  clear HS HC f0
  have HS := Lib.hid st
  have f0 : w1.cell? ⟨w.heap.size, 0, none⟩ = some (.string contact) := blk_cell st.ebx 0
  have f1 : w1.cell? ⟨w.heap.size, 1, none⟩ = some (.bool false) := blk_cell st.ebx 1
  have f2 : w1.cell? ⟨w.heap.size, 2, none⟩ = some (.string name) := blk_cell st.ebx 2
  have f3 : w1.cell? ⟨w.heap.size, 3, none⟩ = some (.slice GA groups.length gc) := blk_cell st.ebx 3
  have f4 : w1.cell? ⟨w.heap.size, 4, none⟩ = some (.int .i64 o) := blk_cell st.ebx 4
  have f5 : w1.cell? ⟨w.heap.size, 5, none⟩ = some (.int .u64 n) := blk_cell st.ebx 5
  have f6 : w1.cell? ⟨w.heap.size, 6, none⟩ = some (.int .i64 i) := blk_cell st.ebx 6
  have f7 : w1.cell? ⟨w.heap.size, 7, none⟩ = some (.int .u64 m) := blk_cell st.ebx 7
  have yy : w1.cell? ⟨qb, 4, none⟩ = some (.slice A0 R.rows.length c0) := blk_cell st.box 4
  have kk := Hh.out.2
  clear st hb1
  obtain ⟨i0, hi0, hz0, hz1, hz2⟩ := info_parts entInfo
  go_wp2_with (at_builtin; refine wpList_append_src _ rfl _ _ 49 rfl (w.heap.size + 1) 54 i0 (.agg #[.string ⟨#[]⟩, .bool false, .string ⟨#[]⟩, .slice none 0 0, .int .i64 0, .int .u64 0, .int .i64 0, .int .u64 0]) 8 96 Tryz.underlying49 hi0 hz0 hz1 hz2 rfl _ 0 [] rfl HS.out.s1 A0 k c0 ((flatE es).take (k * 8)) rfl ((HS.out.old HEN.out.2.1 Hh.out.1 (by decide)).src _ (fun u hu => flatE_one HEN.out.2.2.2.1 (List.mem_of_mem_take hu))) (by have := HK.out; unfold maxLen; omega) (by have := HK.out; omega) (by have := HS.out.upd.size; simpa using this) ?_)
  intro v' w2 hs hg
  try simp only [Nat.zero_add, List.nil_append] at hs
  obtain ⟨P, q, rfl⟩ := hs.shape
  have hst := HS.out.grow (by simpa using hs) hg
  clear HS hs hg yy kk
  have HS := Lib.hid hst
  clear f0 f1 f2 f3 f4 f5 f6 f7
  have f0 : w2.cell? ⟨w.heap.size, 0, none⟩ = some (.string contact) := blk_cell hst.ebx 0
  have f1 : w2.cell? ⟨w.heap.size, 1, none⟩ = some (.bool false) := blk_cell hst.ebx 1
  have f2 : w2.cell? ⟨w.heap.size, 2, none⟩ = some (.string name) := blk_cell hst.ebx 2
  have f3 : w2.cell? ⟨w.heap.size, 3, none⟩ = some (.slice GA groups.length gc) := blk_cell hst.ebx 3
  have f4 : w2.cell? ⟨w.heap.size, 4, none⟩ = some (.int .i64 o) := blk_cell hst.ebx 4
  have f5 : w2.cell? ⟨w.heap.size, 5, none⟩ = some (.int .u64 n) := blk_cell hst.ebx 5
  have f6 : w2.cell? ⟨w.heap.size, 6, none⟩ = some (.int .i64 i) := blk_cell hst.ebx 6
  have f7 : w2.cell? ⟨w.heap.size, 7, none⟩ = some (.int .u64 m) := blk_cell hst.ebx 7
  have yy : w2.cell? ⟨qb, 4, none⟩ = some (.slice A0 R.rows.length c0) := blk_cell hst.box 4
  have zz : w2.frozen? ⟨qb, 4, none⟩ = false := blk_frozen hst.box 4
  have kk := Hl.out.2
  clear hst
  go_wp2_with (at_builtin; refine wpList_append_src _ rfl _ _ 49 rfl (w.heap.size + 1) 54 i0 (.agg #[.string ⟨#[]⟩, .bool false, .string ⟨#[]⟩, .slice none 0 0, .int .i64 0, .int .u64 0, .int .i64 0, .int .u64 0]) 8 96 Tryz.underlying49 hi0 hz0 hz1 hz2 rfl _ k ((flatE es).take (k * 8)) rfl HS.out.s1 D (R.rows.length - k) (c0 - k) ((flatE es).drop (k * 8)) rfl ((HS.out.old HEN.out.2.1 Hl.out.1 (by decide)).src _ (fun u hu => flatE_one HEN.out.2.2.2.1 (List.mem_of_mem_drop hu))) (by have := HK.out; unfold maxLen; omega) (by have := HK.out; omega) (by have := HS.out.upd.size; simpa using this) ?_)
  intro v' w4 hs hg
  obtain ⟨P, q, rfl⟩ := hs.shape
  have hst := HS.out.grow (by simpa using hs) hg
  clear HS hs hg yy kk
  have HS := Lib.hid hst
  have yy : w4.cell? ⟨qb, 4, none⟩ = some (.slice A0 R.rows.length c0) := blk_cell hst.box 4
  have zz : w4.frozen? ⟨qb, 4, none⟩ = false := blk_frozen hst.box 4
  have hfin := hst.store 4 (.slice P (k + (R.rows.length - k)) q) HNE.out
  clear hst HS
  have HS := Lib.hid hfin
  clear hfin
  go_wp2_with fail
  go_end0
  obtain ⟨hnm, hq, he, hge, hgA, hkp, hr2, hlo, hbA⟩ := HEN.out
  refine ⟨rfl, set16_end hnm hq he hge hgA (fun k hk => by have := HX.out k hk; simp; omega) false (by simp [HI.out]) hkp hr2 HS.out (by simp) (by have := HK.out; simp; omega) hlo, ?_⟩
  exact Upd.trans (Upd.of_below hbA (Nat.le_refl _)) HS.out.upd (by simp)

theorem q16set_any {w : World} {B qb : Nat} {X : Nat → Prop} {R : RS} (h : QAt w B X qb R) (e : Ent) (g : Value) (hg : GrpX w B X g e.groups) (hX : ∀ k, X k → k < w.heap.size) (hn : R.rows.length ≤ 1000000) (hB : B ≤ w.heap.size) :
    Calls Tryz.prog 102 #[.pointer (some ⟨qb, 0, none⟩), e.val g] w fun r w' => r = .returned (.tuple #[]) ∧ QAt w' B X qb (R.set e) ∧ Upd w.heap.size (fun k => k = qb) w w' := by
  cases hs : (R.get e.contact).isSome with
  | true =>
    cases hk : e.kept with
    | true => exact q16set_yk h e g hg hX hn hB hs hk
    | false => by_cases hi : e.half.i = 0; exact (q16set_y_ h e g hg hX hn hB hs hk hi); exact q16set_yi h e g hg hX hn hB hs hk hi
  | false =>
    cases hk : e.kept with
    | true => exact q16set_nk h e g hg hX hn hB hs hk
    | false => by_cases hi : e.half.i = 0; exact (q16set_n_ h e g hg hX hn hB hs hk hi); exact q16set_ni h e g hg hX hn hB hs hk hi
end Go.Proofs.YthbjcihdlhkboaaGreatDoor

namespace Go.Proofs.YthbjcihdlhkboaaGreatDoor
set_option linter.unusedSimpArgs false
set_option linter.unusedVariables false
open Go.RowKit Go.Maps Go.Shelf Go.Lib

theorem size_append (a b : ByteArray) : (a ++ b).size = a.size + b.size := ByteArray.size_append

end Go.Proofs.YthbjcihdlhkboaaGreatDoor

namespace Go.Proofs.YthbjcihdlhkboaaGreatDoor
set_option linter.unusedSimpArgs false
set_option linter.unusedVariables false
open Go.RowKit Go.Maps Go.Shelf Go.Lib

theorem list_at (s : ByteArray) (k : Nat) (h : k < s.size) : s.data.toList[k]? = some s[k] := by
  rw [List.getElem?_eq_getElem (by rw [size_list]; exact h), Array.getElem_toList]
  rfl
end Go.Proofs.YthbjcihdlhkboaaGreatDoor
