/- One call of lists, the program's beside the reference's: both answer the same, and both hold the same behind it. -/
import Derived.Test.YthbjcihdlhkboaaGreatDoorPx8
import Derived.Test.YthbjcihdlhkboaaGreatDoorPx4
namespace Go.Proofs.YthbjcihdlhkboaaGreatDoor
set_option linter.unusedSimpArgs false
set_option linter.unusedVariables false
open Go.RowKit Go.Maps Go.Shelf Go.Lib

theorem cutTo_id {s : ByteArray} {n : Nat} (h : s.size ≤ n) : cutTo s n = s := by unfold cutTo; rw [if_neg (by omega)]
theorem cutAll_twice (l : List ByteArray) (m n : Nat) : cutAll (cutAll l m n) m n = cutAll l m n := by
  have h1 : (cutAll l m n).take m = cutAll l m n := List.take_of_length_le (by rw [cutAll_length]; omega)
  show ((cutAll l m n).take m).map (fun t => cutTo t n) = _
  rw [h1]
  conv => rhs; rw [← List.map_id (cutAll l m n)]
  exact List.map_congr_left fun t ht => cutTo_id (cutAll_size ht)

/-- What every row of the reference is. -/
def RowsOk (S : RL) : Prop := ∀ r ∈ S.rows, r.name.size ≤ 80 ∧ r.texts.length ≤ 1000 ∧ r.rules.length ≤ 1000 ∧ ∀ q ∈ r.rules, q.value.size ≤ 4000
theorem RowsOk.set {S : RL} (h : RowsOk S) (hs : Srt.Sorted Row.name S.rows) {name : ByteArray} (hn : name.size ≤ 80) {texts : List ByteArray} (hl : texts.length ≤ 1000) (ht : ∀ t ∈ texts, t.size ≤ 1000) : RowsOk (S.set name texts).2 ∧ (S.set name texts).2.rows.length ≤ S.rows.length + 1 := by
  unfold RL.set
  by_cases hw : wordE name (validB name) = 0
  · rw [if_pos hw]
    cases hp : parseAll texts with
    | error e => exact ⟨h, by simp⟩
    | ok rs =>
      obtain ⟨h1, h2⟩ := parseAll_mem hp
      simp only
      split
      · exact ⟨h, by simp⟩
      · refine ⟨fun r hr => ?_, ?_⟩
        · rcases (Srt.mem_put hs).1 hr with h4 | ⟨h4, _⟩
          · simp at h4
            subst h4
            refine ⟨hn, by simp; omega, by simp only; omega, fun q hq => ?_⟩
            obtain ⟨t, ht1, ht2⟩ := h2 q hq
            have := parseF_small ht2
            have := ht t ht1
            omega
          · exact h r h4
        · have := Srt.length_put (key := Row.name) (l := S.rows) (x := name) [(⟨name, rs.map refWriteS, rs⟩ : Row)]
          simp only [List.length_cons, List.length_nil] at this
          show (Srt.put Row.name S.rows name _).length ≤ _
          omega
  · rw [if_neg hw]; exact ⟨h, by simp⟩
theorem RowsOk.drop {S : RL} (h : RowsOk S) (hs : Srt.Sorted Row.name S.rows) (name : ByteArray) : RowsOk (S.drop name).2 ∧ (S.drop name).2.rows.length ≤ S.rows.length + 1 := by
  unfold RL.drop
  split
  · exact ⟨h, by simp⟩
  · split
    · exact ⟨h, by simp⟩
    · refine ⟨fun r hr => ?_, ?_⟩
      · rcases (Srt.mem_put hs).1 hr with h4 | ⟨h4, _⟩
        · simp at h4
        · exact h r h4
      · have := Srt.length_put (key := Row.name) (l := S.rows) (x := name) ([] : List Row)
        simp only [List.length_nil] at this
        show (Srt.put Row.name S.rows name _).length ≤ _
        omega
theorem RowsOk.deflt {S : RL} (h : RowsOk S) (name : ByteArray) : RowsOk (S.deflt name).2 ∧ (S.deflt name).2.rows.length ≤ S.rows.length + 1 := by
  unfold RL.deflt
  split
  · exact ⟨h, by simp⟩
  · exact ⟨h, by simp⟩
theorem Twin.rightL {L : LS} {S : RL} (h : Twin L S) (hr : RowsOk S) : RightL L := fun s rs hg => by
  obtain ⟨r, h1, _, h3⟩ := (h.find s rs).1 hg
  subst h3
  exact ⟨by have := (hr r h1).2.2.1; omega, (h.right r h1).2⟩
theorem Twin.names {L : LS} {S : RL} (h : Twin L S) (hr : RowsOk S) : ∀ s, (L.get s).isSome = true → s.size ≤ maxLen := fun s hs => by
  rw [h.has, Srt.isAt_iff h.sorted] at hs
  obtain ⟨r, h1, rfl⟩ := hs
  have := (hr r h1).1
  unfold maxLen; omega

theorem LAt.refd {w w' : World} {B lb mb n qb : Nat} {D : DataW Value} {L : LS} {S : RL} (h : LAt w B lb mb n D L) (hr : RfAt w B qb S) (hu : Upd w.heap.size (Ks17 w B qb) w w') : LAt w' B lb mb n D L := by
  obtain ⟨vn, vt, vr, rows, hr⟩ := hr
  refine h.upd hu (Nat.le_refl _) fun k hk => ?_
  rcases hk with rfl | ⟨_, cur, hc | hc⟩
  · have := h.cells_ne hr.cells (by decide)
    exact ⟨this.1, this.2, fun cur hc => by rw [hr.cells] at hc; simp at hc⟩
  · have := h.cells_ne hc (by decide)
    exact ⟨this.1, this.2, fun cur hc2 => by rw [hc] at hc2; simp at hc2⟩
  · have := h.cells_ne hc (by decide)
    exact ⟨this.1, this.2, fun cur hc2 => by rw [hc] at hc2; simp at hc2⟩
theorem RfAt.progd {w w' : World} {B lb mb n qb : Nat} {D : DataW Value} {L : LS} {S : RL} (hr : RfAt w B qb S) (h : LAt w B lb mb n D L) (hu : Upd w.heap.size (fun k => k = lb ∨ k = mb) w w') : RfAt w' B qb S := by
  refine hr.upd hu (Nat.le_refl _) fun k cs T hk hc => ?_
  rcases hk with rfl | rfl
  · rw [h.cells] at hc
    simp at hc
    rw [← hc.2]
    decide
  · obtain ⟨es, clock, hb, _⟩ := h.own
    rw [hb] at hc
    cases hc
theorem txt_refd {w w' : World} {B B' qb : Nat} {S : RL} {v : Value} {ts : List ByteArray} (h : TxtAt w B' v ts) (hr : RfAt w B qb S) (hu : Upd w.heap.size (Ks17 w B qb) w w') : TxtAt w' B' v ts := by
  obtain ⟨vn, vt, vr, rows, hr⟩ := hr
  refine Seq.turn h fun k cur hc _ => hu.block k (blk_lt hc) fun hk => ?_
  rcases hk with rfl | ⟨_, cur2, hc2 | hc2⟩
  · rw [hr.cells] at hc; simp at hc
  · rw [hc2] at hc; simp at hc
  · rw [hc2] at hc; simp at hc
theorem box_refd {w w' : World} {B qb b : Nat} {S : RL} {cs : Array Value} {T : TypeId} (h : w.heap[b]? = some (.cells cs T)) (hT : far17 T = true) (hr : RfAt w B qb S) (hu : Upd w.heap.size (Ks17 w B qb) w w') : w'.heap[b]? = some (.cells cs T) := by
  obtain ⟨vn, vt, vr, rows, hr⟩ := hr
  refine blk_upd h hu (blk_lt h) fun hk => ?_
  rcases hk with rfl | ⟨_, cur2, hc2 | hc2⟩
  · rw [hr.cells] at h; simp at h; rw [← h.2] at hT; revert hT; decide
  · rw [hc2] at h; simp at h; rw [← h.2] at hT; revert hT; decide
  · rw [hc2] at h; simp at h; rw [← h.2] at hT; revert hT; decide
theorem below_refd {w0 w w' : World} {B qb : Nat} {S : RL} (h : Below B w0 w) (hr : RfAt w B qb S) (hu : Upd w.heap.size (Ks17 w B qb) w w') (hB : B ≤ w.heap.size) : Below B w0 w' := by
  have := hr.lo
  exact ⟨hu.os.trans h.os, hu.tape.trans h.tape, hu.output.trans h.output, Nat.le_trans h.size hu.size, fun k hk => (hu.block k (by omega) (fun e => by rcases e with rfl | ⟨e, _⟩ <;> omega)).trans (h.block k hk)⟩

/-- One call, and what it is asked with. -/
structure Opv where
  act : Int
  name : ByteArray
  tv : Value
  texts : List ByteArray
  inn : Bool
  contact : ByteArray
  gv : Value
  groups : List ByteArray
  sub : ByteArray
abbrev Opv.cells (o : Opv) : Array Value := #[.int .i64 o.act, .string o.name, o.tv, .bool o.inn, .string o.contact, o.gv, .string o.sub]
theorem cells7 {w : World} {b : Nat} {x0 x1 x2 x3 x4 x5 x6 : Value} {T : TypeId} (h : w.heap[b]? = some (.cells #[x0, x1, x2, x3, x4, x5, x6] T)) : w.cell? ⟨b, 0, none⟩ = some x0 ∧ w.cell? ⟨b, 1, none⟩ = some x1 ∧ w.cell? ⟨b, 2, none⟩ = some x2 ∧ w.cell? ⟨b, 3, none⟩ = some x3 ∧ w.cell? ⟨b, 4, none⟩ = some x4 ∧ w.cell? ⟨b, 5, none⟩ = some x5 ∧ w.cell? ⟨b, 6, none⟩ = some x6 :=
  ⟨blk_cell h 0, blk_cell h 1, blk_cell h 2, blk_cell h 3, blk_cell h 4, blk_cell h 5, blk_cell h 6⟩

/-- The law's memory: the program's lists and the reference's. -/
structure PEx (w wx : World) (lb mb qb : Nat) (L : LS) (S : RL) (k : Nat) : Prop where
  below : Below w.heap.size w wx
  prog : ∃ n D, n ≤ k ∧ LAt wx w.heap.size lb mb n D L
  ref : RfAt wx w.heap.size qb S
  twin : Twin L S
  rows : RowsOk S
  len : S.rows.length ≤ k
theorem PEx.call {w wx w2 : World} {lb mb qb k : Nat} {L : LS} {S : RL} (h : PEx w wx lb mb qb L S k) (hb : Below wx.heap.size wx w2) : PEx w w2 lb mb qb L S k :=
  { h with below := h.below.trans (hb.mono h.below.size), prog := (let ⟨n, D, e, r⟩ := h.prog; ⟨n, D, e, r.below hb⟩), ref := h.ref.below hb }

/-- Between the program's call and the reference's. -/
structure PMid (w wx : World) (lb mb qb ob : Nat) (oc : Array Value) (X : LS) (S : RL) (k : Nat) : Prop where
  below : Below w.heap.size w wx
  prog : ∃ n D, n ≤ k + 1 ∧ LAt wx w.heap.size lb mb n D X
  ref : RfAt wx w.heap.size qb S
  box : wx.heap[ob]? = some (.cells oc 34)
theorem PMid.call {w wx w2 : World} {lb mb qb ob k : Nat} {oc : Array Value} {X : LS} {S : RL} (h : PMid w wx lb mb qb ob oc X S k) (hb : Below wx.heap.size wx w2) : PMid w w2 lb mb qb ob oc X S k :=
  ⟨h.below.trans (hb.mono h.below.size), (let ⟨n, D, e, r⟩ := h.prog; ⟨n, D, e, r.below hb⟩), h.ref.below hb, blk_below h.box hb (blk_lt h.box)⟩
theorem PMid.of {w wx w' : World} {lb mb qb ob k n' : Nat} {D' : DataW Value} {oc : Array Value} {L X : LS} {S : RL} (h : PEx w wx lb mb qb L S k) (hbox : wx.heap[ob]? = some (.cells oc 34)) (hl : LAt w' w.heap.size lb mb n' D' X) (hn : n' ≤ k + 1) (hu : Upd wx.heap.size (fun j => j = lb ∨ j = mb) wx w') : PMid w w' lb mb qb ob oc X S k := by
  obtain ⟨n, D, hnk, r⟩ := h.prog
  have lo := r.lo
  have hlt := r.lt
  refine ⟨⟨hu.os.trans h.below.os, hu.tape.trans h.below.tape, hu.output.trans h.below.output, Nat.le_trans h.below.size hu.size, fun j hj => (hu.block j (by omega) (by rintro (e | e) <;> omega)).trans (h.below.block j hj)⟩, ⟨n', D', hn, hl⟩, h.ref.progd r hu, ?_⟩
  have := r.cells_ne hbox (by decide)
  exact blk_upd hbox hu (blk_lt hbox) (by rintro (e | e); exact this.1 e; exact this.2 e)

section
variable {w wx : World} {lb mb qb ob k : Nat} {oc : Array Value} {L : LS} {S : RL}
theorem set_law (h : PEx w wx lb mb qb L S k) (hbox : wx.heap[ob]? = some (.cells oc 34)) (hT : Tabs wx) (hk : k ≤ 1000) (nm : ByteArray) (hnm : nm.size ≤ 80) (v : Value) (ts : List ByteArray) {B : Nat} (ht : TxtAt wx B v ts) (hl : ts.length ≤ 20) (hz : ∀ t ∈ ts, t.size ≤ 120) :
    Calls Tryz.prog 36 #[.pointer (some ⟨lb, 0, none⟩), .string nm, v] wx fun e w' => e = .returned (.int .i64 (L.set nm ts).1) ∧ PMid w w' lb mb qb ob oc (L.set nm ts).2 S k := by
  obtain ⟨n, D, hnk, r⟩ := h.prog
  refine (set_any r hT nm (by omega) v ts (txt_strs ht) (by omega) (fun t h => by have := hz t h; omega) (by omega) h.below.size).mono ?_
  rintro e w' ⟨rfl, n', D', hn', hl', hg⟩
  exact ⟨rfl, PMid.of h hbox hl' (by omega) (Upd.of_grown hg (.inr rfl) (Nat.le_refl _))⟩
theorem rset_law {X : LS} (h : PMid w wx lb mb qb ob oc X S k) (hr : RowsOk S) (hlen : S.rows.length ≤ k) (hk : k ≤ 1000) (nm : ByteArray) (hnm : nm.size ≤ 80) (v : Value) (ts : List ByteArray) {B : Nat} (ht : TxtAt wx B v ts) (hl : ts.length ≤ 20) (hz : ∀ t ∈ ts, t.size ≤ 120) (htw : Twin X (S.set nm ts).2) (hs : Srt.Sorted Row.name S.rows) :
    Calls Tryz.prog 37 #[.pointer (some ⟨qb, 0, none⟩), .string nm, v] wx fun e w' => e = .returned (.int .i64 (S.set nm ts).1) ∧ PEx w w' lb mb qb X (S.set nm ts).2 (k + 1) ∧ w'.heap[ob]? = some (.cells oc 34) := by
  refine (rset17_any h.ref nm (by omega) v ts (txt_strs ht) (by omega) (fun t h => by have := hz t h; omega) (by omega) h.below.size).mono ?_
  rintro e w' ⟨rfl, hr', hu⟩
  obtain ⟨n, D, hnk, r⟩ := h.prog
  have hro := hr.set hs (name := nm) hnm (texts := ts) (by omega) (fun t h => by have := hz t h; omega)
  exact ⟨rfl, ⟨below_refd h.below h.ref hu h.below.size, ⟨n, D, hnk, r.refd h.ref hu⟩, hr', htw, hro.1, by have := hro.2; omega⟩, box_refd h.box (by decide) h.ref hu⟩
theorem drop_law (h : PEx w wx lb mb qb L S k) (hbox : wx.heap[ob]? = some (.cells oc 34)) (nm : ByteArray) (hnm : nm.size ≤ 80) :
    Calls Tryz.prog 45 #[.pointer (some ⟨lb, 0, none⟩), .string nm] wx fun e w' => e = .returned (.int .i64 (L.drop nm).1) ∧ PMid w w' lb mb qb ob oc (L.drop nm).2 S k := by
  obtain ⟨n, D, hnk, r⟩ := h.prog
  refine (drop17_any r nm (by unfold maxLen; omega)).mono ?_
  rintro e w' ⟨rfl, ⟨D', hl'⟩, hu⟩
  exact ⟨rfl, PMid.of h hbox hl' (by omega) ⟨hu.os, hu.tape, hu.output, hu.size, fun j hj hn => hu.block j hj (fun e => hn (.inr e))⟩⟩
theorem rdrop_law {X : LS} (h : PMid w wx lb mb qb ob oc X S k) (hr : RowsOk S) (hlen : S.rows.length ≤ k) (hk : k ≤ 1000) (nm : ByteArray) (htw : Twin X (S.drop nm).2) (hs : Srt.Sorted Row.name S.rows) :
    Calls Tryz.prog 46 #[.pointer (some ⟨qb, 0, none⟩), .string nm] wx fun e w' => e = .returned (.int .i64 (S.drop nm).1) ∧ PEx w w' lb mb qb X (S.drop nm).2 (k + 1) := by
  refine (rdrop17_any h.ref nm (by omega) h.below.size).mono ?_
  rintro e w' ⟨rfl, hr', hu1⟩
  have hu : Upd wx.heap.size (Ks17 wx w.heap.size qb) wx w' := ⟨hu1.os, hu1.tape, hu1.output, hu1.size, fun j hj hn => hu1.block j hj (fun e => hn (.inl e))⟩
  obtain ⟨n, D, hnk, r⟩ := h.prog
  have hro := hr.drop hs nm
  exact ⟨rfl, below_refd h.below h.ref hu h.below.size, ⟨n, D, hnk, r.refd h.ref hu⟩, hr', htw, hro.1, by have := hro.2; omega⟩
theorem deflt_law (h : PEx w wx lb mb qb L S k) (hbox : wx.heap[ob]? = some (.cells oc 34)) (nm : ByteArray) (hnm : nm.size ≤ 80) :
    Calls Tryz.prog 47 #[.pointer (some ⟨lb, 0, none⟩), .string nm] wx fun e w' => e = .returned (.int .i64 (L.deflt nm).1) ∧ PMid w w' lb mb qb ob oc (L.deflt nm).2 S k := by
  obtain ⟨n, D, hnk, r⟩ := h.prog
  refine (deflt_any r nm (by unfold maxLen; omega)).mono ?_
  rintro e w' ⟨rfl, hl', hu⟩
  exact ⟨rfl, PMid.of h hbox hl' (by omega) ⟨hu.os, hu.tape, hu.output, hu.size, fun j hj hn => hu.block j hj (fun e => hn (.inl e))⟩⟩
theorem rdeflt_law {X : LS} (h : PMid w wx lb mb qb ob oc X S k) (hr : RowsOk S) (hlen : S.rows.length ≤ k) (hk : k ≤ 1000) (nm : ByteArray) (htw : Twin X (S.deflt nm).2) :
    Calls Tryz.prog 48 #[.pointer (some ⟨qb, 0, none⟩), .string nm] wx fun e w' => e = .returned (.int .i64 (S.deflt nm).1) ∧ PEx w w' lb mb qb X (S.deflt nm).2 (k + 1) := by
  refine (rdeflt_any h.ref nm (by omega)).mono ?_
  rintro e w' ⟨rfl, hr', hu1⟩
  have hu : Upd wx.heap.size (Ks17 wx w.heap.size qb) wx w' := ⟨hu1.os, hu1.tape, hu1.output, hu1.size, fun j hj hn => hu1.block j hj (fun e => hn (.inl e))⟩
  obtain ⟨n, D, hnk, r⟩ := h.prog
  have hro := hr.deflt nm
  exact ⟨rfl, below_refd h.below h.ref hu h.below.size, ⟨n, D, hnk, r.refd h.ref hu⟩, hr', htw, hro.1, by have := hro.2; omega⟩
end

def PlPost (w : World) (lb mb qb k : Nat) (e : Ending) (w' : World) : Prop := e = .returned (.bool true) ∧ ∃ L' S', PEx w w' lb mb qb L' S' (k + 1)

set_option maxRecDepth 100000 in
set_option maxHeartbeats 16000000 in
theorem plays_any {w wx : World} {lb mb qb k : Nat} {L : LS} {S : RL} (h : PEx w wx lb mb qb L S k) (hT : Tabs wx) (hk : k ≤ 1000) (o : Opv) (hs1 : Strs w o.tv o.texts) (hs2 : Strs w o.gv o.groups) :
    Calls Tryz.prog 13 #[.pointer (some ⟨lb, 0, none⟩), .pointer (some ⟨qb, 0, none⟩), .agg o.cells] wx (PlPost w lb mb qb k) := by
  obtain ⟨act, name, tv, texts, inn, contact, gv, groups, sub⟩ := o
  obtain ⟨TA, tc, rfl⟩ : ∃ A c, tv = .slice A texts.length c := let ⟨⟨A, cap, h, _⟩, _⟩ := hs1; ⟨A, cap, h⟩
  obtain ⟨GA, gc, rfl⟩ : ∃ A c, gv = .slice A groups.length c := let ⟨⟨A, cap, h, _⟩, _⟩ := hs2; ⟨A, cap, h⟩
  simp only [Opv.cells] at hs1 hs2 ⊢
  obtain ⟨oc, hoc⟩ : ∃ oc : Array Value, oc = #[.int .i64 act, .string name, .slice TA texts.length tc, .bool inn, .string contact, .slice GA groups.length gc, .string sub] := ⟨_, rfl⟩
  obtain ⟨ob, hob⟩ : ∃ ob, wx.heap.size = ob := ⟨_, rfl⟩
  have hbA : Below wx.heap.size wx (wx.alloc (.cells oc 34)) := (Below.refl _ _).alloc (Nat.le_refl _) _
  have hx := h.call hbA
  have hbox : (wx.alloc (.cells oc 34)).heap[ob]? = some (.cells oc 34) := blk_new' _ hob
  have hTx := hT.later hbA
  have hlo : w.heap.size ≤ ob := by rw [← hob]; exact h.below.size
  have C0 := text_any name 80 (by decide) (wx.alloc (.cells oc 34))
  rw [hoc] at hx hbox hTx C0
  have HA := Lib.hid (And.intro hs1 (And.intro hs2 (And.intro hk hlo)))
  have HX := Lib.hid (And.intro hx (And.intro hbox hTx))
  have HC0 := Lib.hid C0
  have hob2 := hob
  clear h hT hs1 hs2 hk hx hbox hTx hbA C0 hoc hlo hob
  go_enter Tryz.func13, Tryz.ntmps13
  go_wp2_with fail
  refine HC0.out.mono ?_
  rintro e w4 ⟨rfl, hb4⟩
  have hm4 := HX.out.1.call hb4
  have hbox4 := blk_below HX.out.2.1 hb4 (blk_lt HX.out.2.1)
  have hT4 := HX.out.2.2.later hb4
  have hob4 : ob < w4.heap.size := blk_lt hbox4
  clear hob2
  obtain ⟨y0, y1, y2, y3, y4, y5, y6⟩ := cells7 hbox4
  have hnm : (cutTo name 80).size ≤ 80 := cutTo_size _ _
  obtain ⟨nm, hnmE⟩ : ∃ nm, cutTo name 80 = nm := ⟨_, rfl⟩
  rw [hnmE] at hnm ⊢
  have HM := Lib.hid (And.intro hm4 (And.intro hbox4 (And.intro hT4 hnm)))
  clear hm4 hbox4 hT4 hb4 HX HC0 hnm hnmE y1
  by_cases a1 : act = 1
  · subst a1
    obtain ⟨ts, hts⟩ : ∃ ts, cutAll texts 20 120 = ts := ⟨_, rfl⟩
    have htl : ts.length ≤ 20 := by rw [← hts, cutAll_length]; omega
    have htz : ∀ t ∈ ts, t.size ≤ 120 := fun t ht => cutAll_size (by rw [hts]; exact ht)
    have hset := HM.out.1.twin.set nm ts
    have t9 : ((L.set nm ts).1 == (S.set nm ts).1) = true := by rw [hset.1]; simp
    have HTX : Hid (∀ W, Below w.heap.size w W → Calls Tryz.prog 23 #[.slice TA texts.length tc, .int .i64 20, .int .i64 120] W fun e w' => ∃ A c, e = .returned (.slice A ts.length c) ∧ Below W.heap.size W w' ∧ TxtAt w' W.heap.size (.slice A ts.length c) ts) := Lib.hid (fun W hW => by
      refine (texts_any W _ texts (HA.out.1.below hW) 20 120 (by decide) (by decide)).mono ?_
      rintro e w' ⟨A, c, rfl, h1, h2⟩
      rw [hts] at h2 ⊢
      exact ⟨A, c, rfl, h1, h2⟩)
    have HZ := Lib.hid (And.intro htl (And.intro htz hset))
    have tok1 : True := trivial
    clear hts htl htz hset y3 y4 y5 y6
    go_wp2_with fail
    clear y0
    go_region_held3 (fun w' => w'.cell? ⟨ob, 2, none⟩ = some (.slice TA texts.length tc))
      (first
        | exact y2
        | exact hS5
        | exact hS6
        | exact hS7
        | exact hS8)
      (first
        | (go_at_call 23; have _t := tok1; refine (HTX.out w4.drew HM.out.1.below.drew).mono ?_; rintro e w5 ⟨A5, c5, rfl, hb5, hq5⟩; have hp5 := HM.out.1.call (below_undrew hb5); have hx5 := blk_below HM.out.2.1 (below_undrew hb5) hob4; have hS5 : w5.cell? ⟨ob, 2, none⟩ = some (.slice TA texts.length tc) := blk_cell hx5 2; have H5 := Lib.hid (And.intro hp5 (And.intro hx5 (And.intro hq5 (HM.out.2.2.1.later (below_undrew hb5))))); clear _t hp5 hx5 hq5 hb5 tok1)
        | (go_at_call 36; refine (set_law H5.out.1 H5.out.2.1 H5.out.2.2.2 HA.out.2.2.1 nm HM.out.2.2.2 _ ts H5.out.2.2.1 HZ.out.1 HZ.out.2.1).mono ?_; rintro e w6 ⟨rfl, hm6⟩; have hS6 : w6.cell? ⟨ob, 2, none⟩ = some (.slice TA texts.length tc) := blk_cell hm6.box 2; have H6 := Lib.hid hm6; clear hm6)
        | (go_at_call 23; refine (HTX.out w6 H6.out.below).mono ?_; rintro e w7 ⟨A7, c7, rfl, hb7, hq7⟩; have hm7 := H6.out.call hb7; have hS7 : w7.cell? ⟨ob, 2, none⟩ = some (.slice TA texts.length tc) := blk_cell hm7.box 2; have H7 := Lib.hid (And.intro hm7 hq7); clear hm7 hq7 hb7)
        | (go_at_call 37; refine (rset_law H7.out.1 HM.out.1.rows HM.out.1.len HA.out.2.2.1 nm HM.out.2.2.2 _ ts H7.out.2 HZ.out.1 HZ.out.2.1 HZ.out.2.2.2 HM.out.1.twin.sorted).mono ?_; rintro e w8 ⟨rfl, hp8, hx8⟩; have hS8 : w8.cell? ⟨ob, 2, none⟩ = some (.slice TA texts.length tc) := blk_cell hx8 2; have H8 := Lib.hid hp8; clear hp8 hx8))
    go_wp2_with fail
    go_ret
    exact ⟨rfl, _, _, H8.out⟩
  have a1b : (act == 1) = false := by simpa using a1
  clear a1
  by_cases a2 : act = 2
  · subst a2
    have hset := HM.out.1.twin.drop nm
    have t9 : ((L.drop nm).1 == (S.drop nm).1) = true := by rw [hset.1]; simp
    have HZ := Lib.hid hset
    clear hset y2 y3 y4 y5 y6
    go_wp2_with fail
    clear y0
    refine (drop_law HM.out.1 HM.out.2.1 nm HM.out.2.2.2).mono ?_
    rintro e w5 ⟨rfl, hm5⟩
    have H5 := Lib.hid hm5
    clear hm5
    go_wp2_with fail
    refine (rdrop_law H5.out HM.out.1.rows HM.out.1.len HA.out.2.2.1 nm HZ.out.2 HM.out.1.twin.sorted).mono ?_
    rintro e w6 ⟨rfl, hp6⟩
    have H6 := Lib.hid hp6
    clear hp6
    go_wp2_with fail
    go_ret
    exact ⟨rfl, _, _, H6.out⟩
  have a2b : (act == 2) = false := by simpa using a2
  clear a2
  by_cases a3 : act = 3
  · subst a3
    have hset := HM.out.1.twin.deflt nm
    have t9 : ((L.deflt nm).1 == (S.deflt nm).1) = true := by rw [hset.1]; simp
    have HZ := Lib.hid hset
    clear hset y2 y3 y4 y5 y6
    go_wp2_with fail
    clear y0
    refine (deflt_law HM.out.1 HM.out.2.1 nm HM.out.2.2.2).mono ?_
    rintro e w5 ⟨rfl, hm5⟩
    have H5 := Lib.hid hm5
    clear hm5
    go_wp2_with fail
    refine (rdeflt_law H5.out HM.out.1.rows HM.out.1.len HA.out.2.2.1 nm HZ.out.2).mono ?_
    rintro e w6 ⟨rfl, hp6⟩
    have H6 := Lib.hid hp6
    clear hp6
    go_wp2_with fail
    go_ret
    exact ⟨rfl, _, _, H6.out⟩
  have a3b : (act == 3) = false := by simpa using a3
  clear a3
  obtain ⟨gs, hgs⟩ : ∃ gs, cutAll groups 10 80 = gs := ⟨_, rfl⟩
  have hgs2 : cutAll gs 10 80 = gs := by rw [← hgs, cutAll_twice]
  obtain ⟨al, hal⟩ : ∃ al, L.allows nm inn contact gs sub = al := ⟨_, rfl⟩
  have hal2 : S.allows nm inn contact gs sub = al := by rw [← hal, HM.out.1.twin.allows]
  obtain ⟨hx, hhx⟩ : ∃ hx, (L.get nm).isSome = hx := ⟨_, rfl⟩
  have hhx2 : S.is nm = hx := by rw [← hhx, HM.out.1.twin.has]
  have hB0 := HM.out.1.below.size
  have CT1 : Calls Tryz.prog 23 #[.slice GA groups.length gc, .int .i64 10, .int .i64 80] w4 fun e w' => ∃ A c, e = .returned (.slice A gs.length c) ∧ Below w4.heap.size w4 w' ∧ TxtAt w' w4.heap.size (.slice A gs.length c) gs := by
    refine (texts_any w4 _ groups (HA.out.2.1.below HM.out.1.below) 10 80 (by decide) (by decide)).mono ?_
    rintro e w' ⟨A, c, rfl, h1, h2⟩
    rw [hgs] at h2 ⊢
    exact ⟨A, c, rfl, h1, h2⟩
  have HCT1 := Lib.hid CT1
  have HG := Lib.hid hgs2
  have HAL := Lib.hid (And.intro hal (And.intro hal2 (And.intro hhx hhx2)))
  clear hgs hgs2 hal hal2 hhx hhx2 hB0 CT1 y2
  go_wp2_with fail
  clear y0
  refine HCT1.out.mono ?_
  rintro e w5 ⟨A5, c5, rfl, hb5, hq5⟩
  have hp5 := HM.out.1.call hb5
  have hx5 := blk_below HM.out.2.1 hb5 hob4
  have hob5 : ob < w5.heap.size := blk_lt hx5
  obtain ⟨_, _, _, x3, x4, _, x6⟩ := cells7 hx5
  obtain ⟨n, D, hnk, hlat⟩ := hp5.prog
  have hAll : Hid (∀ W, Below w5.heap.size w5 W → ∀ A c B, TxtAt W B (.slice A gs.length c) gs → Calls Tryz.prog 44 #[.pointer (some ⟨lb, 0, none⟩), .string nm, .bool inn, .string contact, .slice A gs.length c, .string sub] W fun e w' => e = .returned (.bool al) ∧ Below W.heap.size W w') := Lib.hid (fun W hW A c B ht => by
    have := allows_any (hlat.below hW) nm inn contact _ gs sub (by have := HM.out.2.2.2; unfold maxLen; omega) (txt_strs ht)
    rwa [HAL.out.1] at this)
  have hRAll : Hid (∀ W, Below w5.heap.size w5 W → ∀ A c B, TxtAt W B (.slice A gs.length c) gs → Calls Tryz.prog 49 #[.pointer (some ⟨qb, 0, none⟩), .string nm, .bool inn, .string contact, .slice A gs.length c, .string sub] W fun e w' => e = .returned (.bool al) ∧ Below W.heap.size W w') := Lib.hid (fun W hW A c B ht => by
    have := rallows_any (hp5.ref.below hW) nm inn contact _ gs sub (txt_strs ht) (by have := HA.out.2.2.1; have := hp5.len; omega) (fun r hr => ⟨by have := (hp5.rows r hr).2.2.1; omega, fun q hq => by have := (hp5.rows r hr).2.2.2 q hq; omega⟩)
    rwa [HAL.out.2.1] at this)
  have hHas : Hid (∀ W, Below w5.heap.size w5 W → Calls Tryz.prog 50 #[.pointer (some ⟨lb, 0, none⟩), .string nm] W fun e w' => e = .returned (.bool hx) ∧ Below W.heap.size W w') := Lib.hid (fun W hW => by
    have := has_any (hlat.below hW) nm (by have := HM.out.2.2.2; unfold maxLen; omega)
    rwa [HAL.out.2.2.1] at this)
  have hRHas : Hid (∀ W, Below w5.heap.size w5 W → Calls Tryz.prog 51 #[.pointer (some ⟨qb, 0, none⟩), .string nm] W fun e w' => e = .returned (.bool hx) ∧ Below W.heap.size W w') := Lib.hid (fun W hW => by
    have := rhas_any (hp5.ref.below hW) nm (by have := HA.out.2.2.1; have := hp5.len; omega)
    rwa [HAL.out.2.2.2] at this)
  have hT2 : Hid (Calls Tryz.prog 23 #[.slice A5 gs.length c5, .int .i64 10, .int .i64 80] w5.drew fun e w' => ∃ A c, e = .returned (.slice A gs.length c) ∧ Below w5.heap.size w5 w' ∧ TxtAt w' w5.heap.size (.slice A gs.length c) gs) := Lib.hid (by
    refine (texts_any w5.drew _ gs (txt_strs hq5.drew) 10 80 (by decide) (by decide)).mono ?_
    rintro e w' ⟨A, c, rfl, h1, h2⟩
    rw [HG.out] at h2 ⊢
    exact ⟨A, c, rfl, below_undrew h1, h2⟩)
  have H5 := Lib.hid (And.intro hp5 (And.intro hx5 hq5))
  clear hp5 hx5 hq5 hb5 HCT1 hlat y3 y4 y5 y6
  go_wp2_with fail
  go_region_held3 (fun w' => w'.cell? ⟨ob, 3, none⟩ = some (.bool inn) ∧ w'.cell? ⟨ob, 4, none⟩ = some (.string contact) ∧ w'.cell? ⟨ob, 6, none⟩ = some (.string sub))
    (first
      | exact ⟨x3, x4, x6⟩
      | exact hS6
      | exact hS7
      | exact hS8
      | exact hS9
      | exact hS10)
    (first
      | (go_at_call 23; refine hT2.out.mono ?_; rintro e w6 ⟨A6, c6, rfl, hb6, hq6⟩; have H6 := Lib.hid hb6; have HQ6 := Lib.hid hq6; have hS6 : w6.cell? ⟨ob, 3, none⟩ = some (.bool inn) ∧ w6.cell? ⟨ob, 4, none⟩ = some (.string contact) ∧ w6.cell? ⟨ob, 6, none⟩ = some (.string sub) := ⟨(H6.out.cell hob5).trans x3, (H6.out.cell hob5).trans x4, (H6.out.cell hob5).trans x6⟩; clear hb6 hq6)
      | (go_at_call 44; refine (hAll.out w6 H6.out _ _ _ HQ6.out).mono ?_; rintro e w7 ⟨rfl, hb7⟩; have H7 := Lib.hid (H6.out.trans (hb7.mono H6.out.size)); have hS7 : w7.cell? ⟨ob, 3, none⟩ = some (.bool inn) ∧ w7.cell? ⟨ob, 4, none⟩ = some (.string contact) ∧ w7.cell? ⟨ob, 6, none⟩ = some (.string sub) := ⟨(H7.out.cell hob5).trans x3, (H7.out.cell hob5).trans x4, (H7.out.cell hob5).trans x6⟩; clear hb7)
      | (go_at_call 49; refine (hRAll.out w7 H7.out A5 c5 _ (H5.out.2.2.below H7.out (fun j hj => (H5.out.2.2.lt j hj).2))).mono ?_; rintro e w8 ⟨rfl, hb8⟩; have H8 := Lib.hid (H7.out.trans (hb8.mono H7.out.size)); have hS8 : w8.cell? ⟨ob, 3, none⟩ = some (.bool inn) ∧ w8.cell? ⟨ob, 4, none⟩ = some (.string contact) ∧ w8.cell? ⟨ob, 6, none⟩ = some (.string sub) := ⟨(H8.out.cell hob5).trans x3, (H8.out.cell hob5).trans x4, (H8.out.cell hob5).trans x6⟩; clear hb8)
      | (go_at_call 50; refine (hHas.out w8 H8.out).mono ?_; rintro e w9 ⟨rfl, hb9⟩; have H9 := Lib.hid (H8.out.trans (hb9.mono H8.out.size)); have hS9 : w9.cell? ⟨ob, 3, none⟩ = some (.bool inn) ∧ w9.cell? ⟨ob, 4, none⟩ = some (.string contact) ∧ w9.cell? ⟨ob, 6, none⟩ = some (.string sub) := ⟨(H9.out.cell hob5).trans x3, (H9.out.cell hob5).trans x4, (H9.out.cell hob5).trans x6⟩; clear hb9)
      | (go_at_call 51; refine (hRHas.out w9 H9.out).mono ?_; rintro e w10 ⟨rfl, hb10⟩; have H10 := Lib.hid (H9.out.trans (hb10.mono H9.out.size)); have hS10 : w10.cell? ⟨ob, 3, none⟩ = some (.bool inn) ∧ w10.cell? ⟨ob, 4, none⟩ = some (.string contact) ∧ w10.cell? ⟨ob, 6, none⟩ = some (.string sub) := ⟨(H10.out.cell hob5).trans x3, (H10.out.cell hob5).trans x4, (H10.out.cell hob5).trans x6⟩; clear hb10))
  go_wp2_with fail
  go_ret
  refine ⟨rfl, L, S, ?_⟩
  have := H5.out.1.call H10.out
  exact { this with prog := (let ⟨n, D, e, r⟩ := this.prog; ⟨n, D, by omega, r⟩), len := by have := this.len; omega }

end Go.Proofs.YthbjcihdlhkboaaGreatDoor
