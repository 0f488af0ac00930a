/- One call, of both rosters: the same answer. RosterExact's walk: for all bounds and all calls it answers true. From a row's condition to a walk's: the library's tables, the arguments. RosterBounds' calls, as they come in. -/
import Derived.Deep.Light
import Derived.Test.YthbjcihdlhkboaaGreatDoorRows
import Derived.Handed
import Derived.PinnedBridge
import Derived.Lay
import Derived.LaidOnce
import Derived.Lib.LaidIn
import Derived.Lib.LaidU8T
import Derived.Deep.Strs
import Derived.ChangeVars
import Derived.Deep.Slices
import Derived.Test.YthbjcihdlhkboaaGreatDoorQ10
import Derived.Test.YthbjcihdlhkboaaGreatDoorQ31
import Derived.Test.YthbjcihdlhkboaaGreatDoorQ33
import Derived.Test.YthbjcihdlhkboaaGreatDoorQ34
namespace Go.Proofs.YthbjcihdlhkboaaGreatDoor
set_option linter.unusedSimpArgs false
set_option linter.unusedVariables false
open Go.RowKit Go.Maps Go.Shelf Go.Lib

/-- The program holds R, the reference Q. -/
structure RE2 (w wx : World) (rb mb qb : Nat) (R Q : RS) : Prop where
  below : Below w.heap.size w wx
  ro : ∃ D, RoAt wx w.heap.size rb mb R.list.length D R
  ref : QAt wx w.heap.size (fun _ => False) qb Q
/-- What holds behind k calls. -/
structure Bd (R : RS) (k : Nat) : Prop where
  inv : RInv R
  ver : 0 ≤ R.ver ∧ R.ver ≤ 4611686018427387904 + k
  next : 0 ≤ R.next ∧ R.next ≤ 4611686018427387904 + k
  len : R.list.length ≤ 40 + k
  nil : R.get ⟨#[]⟩ = none
/-- One call of a roster. -/
inductive Step16 (R : RS) : RS → Prop
  | none : Step16 R R
  | put (s l : ByteArray) (gs : List ByteArray) : Step16 R (R.putAll s l gs).1
  | drop (s : ByteArray) : Step16 R (R.dropAll s).1
  | act (s : ByteArray) (k : Int) : Step16 R (R.actAll s k).1
  | hear (s : ByteArray) (k n : Int) : 0 ≤ n → Step16 R (R.hearAll s k n).1

theorem Bd.up {R : RS} {k : Nat} (h : Bd R k) : Bd R (k + 1) := ⟨h.inv, by have := h.ver; omega, by have := h.next; omega, by have := h.len; omega, h.nil⟩
theorem Bd.told {R R' : RS} {k : Nat} {d : Bool} (h : Bd R k) (ht : Told R R' d) (hn : R'.get ⟨#[]⟩ = none) : Bd R' (k + 1) :=
  ⟨ht.inv, by have := h.ver; have := ht.one; omega, by have := h.next; have := ht.next; omega, by have := h.len; have := ht.grow; omega, hn⟩
theorem RS.set_nil {R : RS} {e : Ent} (h : R.get ⟨#[]⟩ = none) (he : e.contact ≠ ⟨#[]⟩) : (R.set e).get ⟨#[]⟩ = none := by
  rw [RS.get_set, if_neg (fun e1 => he e1.symm)]; exact h
theorem nil_put {R : RS} (hi : RInv R) (h : R.get ⟨#[]⟩ = none) (s l : ByteArray) (gs : List ByteArray) : (R.putAll s l gs).1.get ⟨#[]⟩ = none := by
  unfold RS.putAll
  split
  · exact h
  · rename_i h1
    split
    · exact h
    · split
      · exact h
      · refine (show (R.set (R.putE s l gs)).get ⟨#[]⟩ = none from RS.set_nil h ?_)
        show (R.entry (localS s).1).contact ≠ _
        rw [hi.entry]
        exact local_yes (by simpa using h1)
theorem nil_drop {R : RS} (hi : RInv R) (h : R.get ⟨#[]⟩ = none) (s : ByteArray) : (R.dropAll s).1.get ⟨#[]⟩ = none := by
  unfold RS.dropAll
  split
  · exact h
  · rename_i h1
    split
    · exact h
    · refine (show (R.set (Ent.new _)).get ⟨#[]⟩ = none from RS.set_nil h ?_)
      show (R.entry (localS s).1).contact ≠ _
      rw [hi.entry]
      exact local_yes (by simpa using h1)
theorem nil_act {R : RS} (hi : RInv R) (h : R.get ⟨#[]⟩ = none) (s : ByteArray) (k : Int) : (R.actAll s k).1.get ⟨#[]⟩ = none := by
  unfold RS.actAll RS.act
  by_cases h1 : (localS s).2 = 0
  · rw [if_pos h1]
    by_cases h2 : 11 ≤ k ∧ k ≤ 14
    · rw [if_pos h2]
      by_cases h3 : (actZ (R.entry (localS s).1).half k (R.next + 1)).2.1 = 0
      · rw [if_pos h3]; exact h
      · rw [if_neg h3]
        by_cases h4 : (k = 11 ∨ k = 12) ∧ (R.entry (localS s).1).kept = false ∧ ¬ (R.kept : Int) < R.items
        · rw [if_pos h4]; exact h
        · rw [if_neg h4]
          have hq : (if k = 11 then { R with next := R.next + 1 } else R).get ⟨#[]⟩ = none := by split <;> exact h
          have hs : ∀ e : Ent, e.contact = (localS s).1 → ((if k = 11 then { R with next := R.next + 1 } else R).set e).get ⟨#[]⟩ = none := fun e he => RS.set_nil hq (by rw [he]; exact local_yes h1)
          simp only
          split
          · exact hs _ (hi.entry _)
          · exact hs _ (hi.entry _)
    · rw [if_neg h2]; exact h
  · rw [if_neg h1]; exact h
theorem nil_hear {R : RS} (hi : RInv R) (h : R.get ⟨#[]⟩ = none) (s : ByteArray) (k n : Int) : (R.hearAll s k n).1.get ⟨#[]⟩ = none := by
  unfold RS.hearAll RS.hear
  by_cases h1 : (localS s).2 = 0
  · rw [if_pos h1]
    cases hS : hearS (R.entry (localS s).1).half k n with
    | none => exact h
    | some ht =>
      obtain ⟨hh, t⟩ := ht
      simp only
      by_cases h2 : (R.get (localS s).1).isSome = false ∧ k = 1 ∧ R.asks ≤ (R.list.length : Int) - (R.kept : Int)
      · rw [if_pos h2]; exact h
      · rw [if_neg h2]
        simp only
        have hs : (R.set { R.entry (localS s).1 with half := hh }).get ⟨#[]⟩ = none := RS.set_nil h (by show (R.entry (localS s).1).contact ≠ _; rw [hi.entry]; exact local_yes h1)
        split <;> exact hs
  · rw [if_neg h1]; exact h

section
variable {w wx w2 : World} {rb mb qb : Nat} {R Q R' Q' : RS}
theorem RE2.call (h : RE2 w wx rb mb qb R Q) (hb : Below wx.heap.size wx w2) : RE2 w w2 rb mb qb R Q where
  below := h.below.trans (hb.mono h.below.size)
  ro := let ⟨D, r⟩ := h.ro; ⟨D, r.below hb⟩
  ref := h.ref.below hb
/-- A block of another kind is not the roster's. -/
theorem RE2.ne (h : RE2 w wx rb mb qb R Q) {j : Nat} {cs : Array Value} {T : TypeId} (hj : wx.heap[j]? = some (.cells cs T)) (hT : T ≠ 111) : ¬ (j = rb ∨ j = mb) := by
  obtain ⟨D, r⟩ := h.ro
  rintro (e | e)
  · subst e; rw [r.cells] at hj; simp at hj; exact hT hj.2.symm
  · obtain ⟨es, clock, hb, _⟩ := r.own
    subst e; rw [hb] at hj; cases hj
theorem RE2.nq (h : RE2 w wx rb mb qb R Q) {j : Nat} {cs : Array Value} {T : TypeId} (hj : wx.heap[j]? = some (.cells cs T)) (hT : T ≠ 129) : j ≠ qb := by
  obtain ⟨v, hv, _⟩ := h.ref.box
  rintro rfl
  rw [hv] at hj; simp at hj; exact hT hj.2.symm
/-- The program's call. -/
theorem RE2.prog (h : RE2 w wx rb mb qb R Q) {n : Nat} (hr : AnyRo wx w2 w.heap.size rb mb n R') (hu : Upd wx.heap.size (fun j => j = rb ∨ j = mb) wx w2) : RE2 w w2 rb mb qb R' Q := by
  obtain ⟨D0, r0⟩ := h.ro
  obtain ⟨n', D', _, r'⟩ := hr
  have lo := r0.lo
  obtain ⟨v, hv, _⟩ := h.ref.box
  refine ⟨⟨hu.os.trans h.below.os, hu.tape.trans h.below.tape, hu.output.trans h.below.output, Nat.le_trans h.below.size hu.size, fun j hj => (hu.block j (by have := h.below.size; omega) (by rintro (e | e) <;> omega)).trans (h.below.block j hj)⟩, ⟨D', r'.tightK⟩, ?_⟩
  exact h.ref.keep (hu.block _ h.ref.lt (h.ne hv (by decide))) fun k cs T hc hT _ _ => hu.block k (blk_lt hc) (h.ne hc (by rcases hT with e | e <;> rw [e] <;> decide))
/-- The reference's call. -/
theorem RE2.refd (h : RE2 w wx rb mb qb R Q) (hd : QDone wx w2 w.heap.size qb (fun _ => False) Q') : RE2 w w2 rb mb qb R Q' := by
  obtain ⟨D0, r0⟩ := h.ro
  have hq := h.ref.lo
  refine ⟨⟨hd.upd.os.trans h.below.os, hd.upd.tape.trans h.below.tape, hd.upd.output.trans h.below.output, Nat.le_trans h.below.size hd.upd.size, fun j hj => (hd.upd.block j (by have := h.below.size; omega) (by omega)).trans (h.below.block j hj)⟩, ⟨D0, RoAtK.upd r0 hd.upd (Nat.le_refl _) (h.nq r0.cells (by decide)) ?_ (fun k cur hc _ => h.nq hc (by decide))⟩, hd.at_⟩
  intro e
  obtain ⟨v, hv, _⟩ := h.ref.box
  obtain ⟨es, clock, hb, _⟩ := r0.own
  rw [e, hv] at hb
  cases hb
theorem RE2.keys (h : RE2 w wx rb mb qb R Q) : ∀ s, (R.get s).isSome = true → s.size ≤ maxLen := let ⟨_, r⟩ := h.ro; RInv.key_le r
theorem RE2.few (h : RE2 w wx rb mb qb R R) : FewG R := let ⟨_, r⟩ := h.ro; r.few h.ref.nm
theorem RE2.blkP (h : RE2 w wx rb mb qb R Q) (hu : Upd wx.heap.size (fun j => j = rb ∨ j = mb) wx w2) {b : Nat} {cs : Array Value} {T : TypeId} (hb : wx.heap[b]? = some (.cells cs T)) (hT : T ≠ 111) : w2.heap[b]? = some (.cells cs T) := blk_upd hb hu (blk_lt hb) (h.ne hb hT)
theorem RE2.blkQ (h : RE2 w wx rb mb qb R Q) (hd : QDone wx w2 w.heap.size qb (fun _ => False) Q') {b : Nat} {cs : Array Value} {T : TypeId} (hb : wx.heap[b]? = some (.cells cs T)) (hT : T ≠ 129) : w2.heap[b]? = some (.cells cs T) := blk_upd hb hd.upd (blk_lt hb) (h.nq hb hT)
theorem RE2.seqP (h : RE2 w wx rb mb qb R Q) (hu : Upd wx.heap.size (fun j => j = rb ∨ j = mb) wx w2) {B : Nat} {v : Value} {n : Nat} {xs : List Value} (hs : Seq wx B 9 1 v n xs) : Seq w2 B 9 1 v n xs :=
  hs.kept fun k hk => by obtain ⟨cur, hc⟩ := hs.block k hk; exact hu.block k (blk_lt hc) (h.ne hc (by decide))
theorem RE2.grpQ (h : RE2 w wx rb mb qb R Q) (hd : QDone wx w2 w.heap.size qb (fun _ => False) Q') {B : Nat} {v : Value} {gs : List ByteArray} (hg : Grp wx B v gs) : Grp w2 B v gs :=
  hg.kept fun k cur hc _ => hd.upd.block k (blk_lt hc) (h.nq hc (by decide))
end

theorem cellsOp {w : World} {b : Nat} {x0 x1 x2 x3 x4 x5 : Value} {T : TypeId} (h : w.heap[b]? = some (.cells #[x0, x1, x2, x3, x4, x5] T)) : w.cell? ⟨b, 0, none⟩ = some x0 ∧ w.cell? ⟨b, 1, none⟩ = some x1 ∧ w.cell? ⟨b, 2, none⟩ = some x2 ∧ w.cell? ⟨b, 3, none⟩ = some x3 ∧ w.cell? ⟨b, 4, none⟩ = some x4 ∧ w.cell? ⟨b, 5, none⟩ = some x5 :=
  ⟨blk_cell h 0, blk_cell h 1, blk_cell h 2, blk_cell h 3, blk_cell h 4, blk_cell h 5⟩
/-- Texts in new memory, told. -/
def tellQ (l : List ByteArray) : Reg.Tells := ⟨fun w u => ∃ A c, u = .slice A l.length c ∧ Seq w 0 9 1 u l.length (flatS l), fun hb ⟨A, c, h1, h2⟩ => ⟨A, c, h1, h2.below hb fun k hk => (h2.lt k hk).2⟩⟩
theorem cutTo_idem (s : ByteArray) (n : Nat) : cutTo (cutTo s n) n = cutTo s n := by
  have := cutTo_size s n
  generalize cutTo s n = t at *
  unfold cutTo
  rw [if_neg (by omega)]
theorem cutAll_idem (l : List ByteArray) (m n : Nat) : cutAll (cutAll l m n) m n = cutAll l m n := by
  unfold cutAll
  rw [List.take_of_length_le (by simp; omega), List.map_map]
  congr 1
  funext t
  exact cutTo_idem t n

set_option maxRecDepth 100000 in
set_option maxHeartbeats 16000000 in
theorem plays16_any {w wx : World} {rb mb qb k : Nat} {R : RS} (h : RE2 w wx rb mb qb R R) (hbd : Bd R k) (hT : Tabs w) (hk : k ≤ 1000) (act : Int) (contact name : ByteArray) (gv : Value) (groups : List ByteArray) (kind n : Int) (hg : Strs wx gv groups) (hn0 : 0 ≤ n) :
    Calls Tryz.prog 30 #[.pointer (some ⟨rb, 0, none⟩), .pointer (some ⟨qb, 0, none⟩), .agg #[.int .i64 act, .string contact, .string name, gv, .int .i64 kind, .int .u64 n]] wx fun r w' =>
      r = .returned (.bool true) ∧ ∃ R', RE2 w w' rb mb qb R' R' ∧ Bd R' (k + 1) ∧ Step16 R R' := by
  obtain ⟨GA, gc, rfl⟩ : ∃ A cap, gv = .slice A groups.length cap := let ⟨⟨A, cap, h, _⟩, _⟩ := hg; ⟨A, cap, h⟩
  have hbo := blk_new wx (.cells #[.int .i64 act, .string contact, .string name, .slice GA groups.length gc, .int .i64 kind, .int .u64 n] 47)
  have hal : Below wx.heap.size wx (wx.alloc (.cells #[.int .i64 act, .string contact, .string name, .slice GA groups.length gc, .int .i64 kind, .int .u64 n] 47)) := (Below.refl _ _).alloc (Nat.le_refl _) _
  have HM1 := Lib.hid (h.call hal)
  have HSG := Lib.hid (hg.below hal)
  have HFEW := Lib.hid h.few
  have HBD := Lib.hid hbd
  have HT := Lib.hid hT
  clear h hg hbd hT hal
  obtain ⟨bo, hb⟩ : ∃ b, wx.heap.size = b := ⟨_, rfl⟩
  obtain ⟨w1, hw1⟩ : ∃ W, wx.alloc (.cells #[.int .i64 act, .string contact, .string name, .slice GA groups.length gc, .int .i64 kind, .int .u64 n] 47) = W := ⟨_, rfl⟩
  rw [hw1, hb] at hbo
  rw [hw1] at HM1 HSG
  obtain ⟨b0, b1, b2, b3, b4, b5⟩ := cellsOp hbo
  have zbo := blk_lt hbo
  have HB0 := Lib.hid hbo
  have HW1 := Lib.hid (And.intro hw1 hb)
  clear hw1 hb hbo
  go_enter Tryz.func30, Tryz.ntmps30
  go_upto_region 1 with fail
  rw [HW1.out.1, HW1.out.2]
  clear HW1
  refine Reg.wp_region_puts (A := [[], [0], [1, 0], [], [3], [4, 3, 2, 1, 0], [2, 1, 0, 5, 4, 3], [5, 4, 3, 2, 1, 0, 6]]) (effs := [2, 5]) (N := 200)
    (val := fun ix r => match ix with | 0 => .pointer (some ⟨bo, 1, none⟩) | 1 => .string contact | 3 => .pointer (some ⟨bo, 3, none⟩) | 4 => .slice GA groups.length gc | 6 => (r 2) | 7 => (r 5) | _ => undef)
    (Stage := fun rs wx => Reg.Reads w1 (fun i => match i with | 2 => Reg.Tells.eq (.string (cutTo contact 80)) | 5 => tellQ (cutAll groups 12 80) | _ => Reg.Tells.any) rs wx)
    (fun rs => [(some 33, .pointer (some ⟨bo, 1, none⟩)), (some 34, .string contact), (some 35, (rs 2).getD undef), (some 36, .pointer (some ⟨bo, 3, none⟩)), (some 37, .slice GA groups.length gc), (some 38, (rs 5).getD undef), (some 7, ((rs 2).getD undef)), (some 8, ((rs 5).getD undef))])
    (by kernel_rfl) (by kernel_rfl) rfl (fun _ => rfl) ?h0 ?hob ?hend
  case hob =>
    intro ix hix
    match ix, hix with
    | 0, _ => exact Reg.Ob.pure rfl rfl rfl (fun rs => .pointer (some ⟨bo, 1, none⟩)) (fun _ => rfl) (fun rs wx a hs hd hl hk => by
        have e5 : (a.tmps[5]?).getD undef = .pointer (some ⟨bo, 0, none⟩) := hk 5 (by decide)
        go_simp)
    | 1, _ => exact Reg.Ob.pure rfl rfl rfl (fun rs => .string contact) (fun _ => rfl) (fun rs wx a hs hd hl hk => by
        have e33 : (a.tmps[33]?).getD undef = .pointer (some ⟨bo, 1, none⟩) := hk 33 (by decide)
        have c : wx.cell? ⟨bo, 1, none⟩ = some (.string contact) := (hs.below.cell (p := ⟨bo, 1, none⟩) zbo).trans b1
        go_simp)
    | 2, _ =>
      refine Reg.Ob.eff rfl rfl rfl ?_
      intro rs wx a hs hd hn hl hk K hK
      have e34 : (a.tmps[34]?).getD undef = .string contact := hk 34 (by decide)
      have HS := Lib.hid hs
      have HKK := Lib.hid hK
      clear hs hn hd hl hk hK
      go_simp
      refine (text_any contact 80 (by decide) _).mono ?_
      rintro e w5 ⟨rfl, hb⟩
      exact HKK.out _ _ (HS.out.step hb rfl)
    | 3, _ => exact Reg.Ob.pure rfl rfl rfl (fun rs => .pointer (some ⟨bo, 3, none⟩)) (fun _ => rfl) (fun rs wx a hs hd hl hk => by
        have e5 : (a.tmps[5]?).getD undef = .pointer (some ⟨bo, 0, none⟩) := hk 5 (by decide)
        go_simp)
    | 4, _ => exact Reg.Ob.pure rfl rfl rfl (fun rs => .slice GA groups.length gc) (fun _ => rfl) (fun rs wx a hs hd hl hk => by
        have e36 : (a.tmps[36]?).getD undef = .pointer (some ⟨bo, 3, none⟩) := hk 36 (by decide)
        have c : wx.cell? ⟨bo, 3, none⟩ = some (.slice GA groups.length gc) := (hs.below.cell (p := ⟨bo, 3, none⟩) zbo).trans b3
        go_simp)
    | 5, _ =>
      refine Reg.Ob.eff rfl rfl rfl ?_
      intro rs wx a hs hd hn hl hk K hK
      have e37 : (a.tmps[37]?).getD undef = .slice GA groups.length gc := hk 37 (by decide)
      have HS := Lib.hid hs
      have HKK := Lib.hid hK
      clear hs hn hd hl hk hK
      go_simp
      refine (texts_any _ _ groups (HSG.out.below HS.out.below) 12 80 (by decide) (by decide)).mono ?_
      rintro e w5 ⟨A5, c5, rfl, hb, hq⟩
      exact HKK.out _ _ (HS.out.step hb ⟨A5, c5, rfl, hq.lower (Nat.zero_le _)⟩)
    | 6, _ => exact Reg.Ob.pure rfl rfl rfl (fun rs => ((rs 2).getD undef)) (fun _ => rfl) (fun rs wx a hs hd hl hk => by
        have e35 : (a.tmps[35]?).getD undef = ((rs 2).getD undef) := hk 35 (by decide)
        go_simp)
    | 7, _ => exact Reg.Ob.pure rfl rfl rfl (fun rs => ((rs 5).getD undef)) (fun _ => rfl) (fun rs wx a hs hd hl hk => by
        have e38 : (a.tmps[38]?).getD undef = ((rs 5).getD undef) := hk 38 (by decide)
        go_simp)
    | n + 8, h => exact absurd h (by simp <;> omega)
  case h0 =>
    exact Reg.Reads.start _ _
  case hend =>
    intro rs wy hs hd
    obtain ⟨u2, hu2⟩ := hd 2 (by decide) (by decide)
    obtain ⟨u5, hu5⟩ := hd 5 (by decide) (by decide)
    obtain rfl : u2 = .string (cutTo contact 80) := hs.res 2 u2 hu2
    obtain ⟨A8, c8, rfl, hq8⟩ := hs.res 5 u5 hu5
    have HM := Lib.hid (HM1.out.call hs.below)
    have HQS := Lib.hid hq8
    have HBO := Lib.hid (blk_below HB0.out hs.below (blk_lt HB0.out))
    simp only [List.foldl_cons, List.foldl_nil, Act.put, List.setIfInBounds_toArray, List.set_cons_zero, List.set_cons_succ]
    rw [hu2, hu5]
    simp only [Option.getD_some]
    clear hs hd hu2 hu5 hq8 HB0 HM1 b0 b1 b2 b3 b4 b5 HSG
    obtain ⟨b0, b1, b2, b3, b4, b5⟩ := cellsOp HBO.out
    clear b1 b3
    by_cases a1 : act = 1
    · have q1 : (act == 1) = true := by simp [a1]
      clear a1 b4 b5
      obtain ⟨⟨R', ⟨ec0, ek, en, eg, ⟨eo, ehn, ei, em⟩⟩, ec⟩, hX⟩ : ∃ X, R.putAll (cutTo contact 80) (cutTo name 80) (cutAll groups 12 80) = X := ⟨_, rfl⟩
      have hR' : (R.putAll (cutTo contact 80) (cutTo name 80) (cutAll groups 12 80)).1 = R' := by rw [hX]
      go_wp2_with fail
      refine (text_any name 80 (by decide) _).mono ?_
      rintro r w5 ⟨rfl, hb5⟩
      have HM := Lib.hid (HM.out.call hb5)
      have HQS := Lib.hid (HQS.out.below hb5 fun k hk => (HQS.out.lt k hk).2)
      have HBO := Lib.hid (blk_below HBO.out hb5 (blk_lt HBO.out))
      clear hb5 b2
      go_wp2_with fail
      refine (texts_any _ _ (cutAll groups 12 80) (strs_of_seq HQS.out (by rw [cutAll_length]; omega)) 12 80 (by decide) (by decide)).mono ?_
      rintro r w6 ⟨A6, c6, rfl, hb6, hs6⟩
      rw [cutAll_idem] at hs6 ⊢
      have HM := Lib.hid (HM.out.call hb6)
      have HQS := Lib.hid (HQS.out.below hb6 fun k hk => (HQS.out.lt k hk).2)
      have HBO := Lib.hid (blk_below HBO.out hb6 (blk_lt HBO.out))
      have HS6 := Lib.hid hs6
      clear hb6 hs6
      have CP := rput_any (Classical.choose_spec HM.out.ro) (HT.out.later HM.out.below) (cutTo contact 80) (cutTo name 80) _ (cutAll groups 12 80) (by have := cutTo_size contact 80; omega) (by have := cutTo_size name 80; omega) (strs_of_seq HS6.out (by rw [cutAll_length]; omega)) (by rw [cutAll_length]; omega) (fun g hg => by have := cutAll_size hg; omega) (by have := HBD.out.len; omega) HM.out.below.size HBD.out.ver.1 (by have := HBD.out.ver; omega)
      rw [hX] at CP
      simp only at CP
      have HCP := Lib.hid CP
      clear CP
      go_wp2_with fail
      refine HCP.out.mono ?_
      rintro r w7 ⟨⟨A7, c7, rfl, hg7⟩, hro7, hu7⟩
      have HBO := Lib.hid (HM.out.blkP hu7 HBO.out (by decide))
      have HQS := Lib.hid (HM.out.seqP hu7 HQS.out)
      have HM := Lib.hid (HM.out.prog hro7 hu7)
      clear hro7 hu7
      have hal7 : Below w7.heap.size w7 (w7.alloc (.cells #[.string ec0, .bool ek, .string en, .slice A7 eg.length c7, .int .i64 eo, .int .u64 ehn, .int .i64 ei, .int .u64 em] 54)) := (Below.refl _ _).alloc (Nat.le_refl _) _
      have HM := Lib.hid (HM.out.call hal7)
      have HQS := Lib.hid (HQS.out.below hal7 fun k hk => (HQS.out.lt k hk).2)
      have HBO := Lib.hid (blk_alloc HBO.out (.cells #[.string ec0, .bool ek, .string en, .slice A7 eg.length c7, .int .i64 eo, .int .u64 ehn, .int .i64 ei, .int .u64 em] 54))
      have HB7 := Lib.hid (blk_new w7 (.cells #[.string ec0, .bool ek, .string en, .slice A7 eg.length c7, .int .i64 eo, .int .u64 ehn, .int .i64 ei, .int .u64 em] 54))
      have HG7 := Lib.hid (hg7.below hal7)
      clear hg7 HCP hal7
      obtain ⟨_, _, b2, _⟩ := cellsOp HBO.out
      go_wp2_with fail
      refine (text_any name 80 (by decide) _).mono ?_
      rintro r w8 ⟨rfl, hb8⟩
      have HM := Lib.hid (HM.out.call hb8)
      have HQS := Lib.hid (HQS.out.below hb8 fun k hk => (HQS.out.lt k hk).2)
      have HB7 := Lib.hid (blk_below HB7.out hb8 (blk_lt HB7.out))
      have HG7 := Lib.hid (HG7.out.below hb8)
      clear hb8 b2
      have CQ := q16put_any HM.out.ref (by rw [HM.out.ref.nm.len]; have := HBD.out.len; omega) HFEW.out (fun k hk => hk.elim) HM.out.below.size HBD.out.ver.1 (by have := HBD.out.ver; omega) (cutTo contact 80) (cutTo name 80) _ (cutAll groups 12 80) (strs_of_seq HQS.out (by rw [cutAll_length]; omega)) (by rw [cutAll_length]; omega)
      rw [hX] at CQ
      simp only at CQ
      have HCQ := Lib.hid CQ
      clear CQ
      go_wp2_with fail
      refine HCQ.out.mono ?_
      rintro r w9 ⟨⟨A9, c9, rfl, hg9⟩, hd9⟩
      have HB7 := Lib.hid (HM.out.blkQ hd9 HB7.out (by decide))
      have HG7 := Lib.hid (HM.out.grpQ hd9 HG7.out)
      have HM := Lib.hid (HM.out.refd hd9)
      clear hd9
      have hal9 : Below w9.heap.size w9 (w9.alloc (.cells #[.string ec0, .bool ek, .string en, .slice A9 eg.length c9, .int .i64 eo, .int .u64 ehn, .int .i64 ei, .int .u64 em] 54)) := (Below.refl _ _).alloc (Nat.le_refl _) _
      have HM9 := Lib.hid (HM.out.call hal9)
      have HB7 := Lib.hid (blk_alloc HB7.out (.cells #[.string ec0, .bool ek, .string en, .slice A9 eg.length c9, .int .i64 eo, .int .u64 ehn, .int .i64 ei, .int .u64 em] 54))
      have HB9 := Lib.hid (blk_new w9 (.cells #[.string ec0, .bool ek, .string en, .slice A9 eg.length c9, .int .i64 eo, .int .u64 ehn, .int .i64 ei, .int .u64 em] 54))
      have HG7 := Lib.hid (HG7.out.below hal9)
      have HG9 := Lib.hid (hg9.below hal9)
      clear hg9 HCQ hal9 HQS HBO HM
      obtain ⟨x0, x1, x2, x3, x4, x5, x6, x7, f0, f1, f2, f3, f4, f5, f6, f7⟩ := cells8 HB7.out
      obtain ⟨y0, y1, y2, y3, y4, y5, y6, y7, g0, g1, g2, g3, g4, g5, g6, g7⟩ := cells8 HB9.out
      have HSA := Lib.hid (sameEnt_any (⟨ec0, ek, en, eg, ⟨eo, ehn, ei, em⟩⟩ : Ent) (⟨ec0, ek, en, eg, ⟨eo, ehn, ei, em⟩⟩ : Ent) (.slice A7 eg.length c7) (.slice A9 eg.length c9) _ HG7.out.strs HG9.out.strs)
      go_wp2_with fail
      refine HSA.out.mono ?_
      rintro r w10 ⟨rfl, hb10⟩
      rw [sameE_eq]
      simp only [decide_true]
      have HM10 := Lib.hid (HM9.out.call hb10)
      clear hb10 HSA HM9
      clear x0 f0 x1 f1 x2 f2 x3 f3 x4 f4 x5 f5 x6 f6 x7 f7
      clear y0 g0 y1 g1 y2 g2 y3 g3 y4 g4 y5 g5 y6 g6 y7 g7
      go_wp2_with fail
      go_ret
      exact ⟨rfl, R', HM10.out, by rw [← hR']; exact HBD.out.told (told_put HBD.out.inv (cutTo contact 80) (cutTo name 80) (cutAll groups 12 80)) (nil_put HBD.out.inv HBD.out.nil _ _ _), by rw [← hR']; exact Step16.put _ _ _⟩
    · have q1 : (act == 1) = false := by simp [a1]
      by_cases a2 : act = 2
      · have q2 : (act == 2) = true := by simp [a2]
        clear a1 a2 b2 b4 b5
        obtain ⟨⟨R', ⟨ec0, ek, en, eg, ⟨eo, ehn, ei, em⟩⟩, ec⟩, hX⟩ : ∃ X, R.dropAll (cutTo contact 80) = X := ⟨_, rfl⟩
        have hR' : (R.dropAll (cutTo contact 80)).1 = R' := by rw [hX]
        have CP := rdrop_any (Classical.choose_spec HM.out.ro) (HT.out.later HM.out.below) (cutTo contact 80) (by have := cutTo_size contact 80; omega) (by have := HBD.out.len; omega) HM.out.below.size HBD.out.ver.1 (by have := HBD.out.ver; omega)
        rw [hX] at CP
        simp only at CP
        have HCP := Lib.hid CP
        clear CP
        go_wp2_with fail
        refine HCP.out.mono ?_
        rintro r w7 ⟨⟨A7, c7, rfl, hg7⟩, hro7, hu7⟩
        have HBO := Lib.hid (HM.out.blkP hu7 HBO.out (by decide))
        have HQS := Lib.hid (HM.out.seqP hu7 HQS.out)
        have HM := Lib.hid (HM.out.prog hro7 hu7)
        clear hro7 hu7
        have hal7 : Below w7.heap.size w7 (w7.alloc (.cells #[.string ec0, .bool ek, .string en, .slice A7 eg.length c7, .int .i64 eo, .int .u64 ehn, .int .i64 ei, .int .u64 em] 54)) := (Below.refl _ _).alloc (Nat.le_refl _) _
        have HM := Lib.hid (HM.out.call hal7)
        have HQS := Lib.hid (HQS.out.below hal7 fun k hk => (HQS.out.lt k hk).2)
        have HBO := Lib.hid (blk_alloc HBO.out (.cells #[.string ec0, .bool ek, .string en, .slice A7 eg.length c7, .int .i64 eo, .int .u64 ehn, .int .i64 ei, .int .u64 em] 54))
        have HB7 := Lib.hid (blk_new w7 (.cells #[.string ec0, .bool ek, .string en, .slice A7 eg.length c7, .int .i64 eo, .int .u64 ehn, .int .i64 ei, .int .u64 em] 54))
        have HG7 := Lib.hid (hg7.below hal7)
        clear hg7 HCP hal7
        have CQ := q16drop_any HM.out.ref (by rw [HM.out.ref.nm.len]; have := HBD.out.len; omega) HFEW.out (fun k hk => hk.elim) HM.out.below.size HBD.out.ver.1 (by have := HBD.out.ver; omega) (cutTo contact 80)
        rw [hX] at CQ
        simp only at CQ
        have HCQ := Lib.hid CQ
        clear CQ
        go_wp2_with fail
        refine HCQ.out.mono ?_
        rintro r w9 ⟨⟨A9, c9, rfl, hg9⟩, hd9⟩
        have HB7 := Lib.hid (HM.out.blkQ hd9 HB7.out (by decide))
        have HG7 := Lib.hid (HM.out.grpQ hd9 HG7.out)
        have HM := Lib.hid (HM.out.refd hd9)
        clear hd9
        have hal9 : Below w9.heap.size w9 (w9.alloc (.cells #[.string ec0, .bool ek, .string en, .slice A9 eg.length c9, .int .i64 eo, .int .u64 ehn, .int .i64 ei, .int .u64 em] 54)) := (Below.refl _ _).alloc (Nat.le_refl _) _
        have HM9 := Lib.hid (HM.out.call hal9)
        have HB7 := Lib.hid (blk_alloc HB7.out (.cells #[.string ec0, .bool ek, .string en, .slice A9 eg.length c9, .int .i64 eo, .int .u64 ehn, .int .i64 ei, .int .u64 em] 54))
        have HB9 := Lib.hid (blk_new w9 (.cells #[.string ec0, .bool ek, .string en, .slice A9 eg.length c9, .int .i64 eo, .int .u64 ehn, .int .i64 ei, .int .u64 em] 54))
        have HG7 := Lib.hid (HG7.out.below hal9)
        have HG9 := Lib.hid (hg9.below hal9)
        clear hg9 HCQ hal9 HQS HBO HM
        obtain ⟨x0, x1, x2, x3, x4, x5, x6, x7, f0, f1, f2, f3, f4, f5, f6, f7⟩ := cells8 HB7.out
        obtain ⟨y0, y1, y2, y3, y4, y5, y6, y7, g0, g1, g2, g3, g4, g5, g6, g7⟩ := cells8 HB9.out
        have HSA := Lib.hid (sameEnt_any (⟨ec0, ek, en, eg, ⟨eo, ehn, ei, em⟩⟩ : Ent) (⟨ec0, ek, en, eg, ⟨eo, ehn, ei, em⟩⟩ : Ent) (.slice A7 eg.length c7) (.slice A9 eg.length c9) _ HG7.out.strs HG9.out.strs)
        go_wp2_with fail
        refine HSA.out.mono ?_
        rintro r w10 ⟨rfl, hb10⟩
        rw [sameE_eq]
        simp only [decide_true]
        have HM10 := Lib.hid (HM9.out.call hb10)
        clear hb10 HSA HM9
        clear x0 f0 x1 f1 x2 f2 x3 f3 x4 f4 x5 f5 x6 f6 x7 f7
        clear y0 g0 y1 g1 y2 g2 y3 g3 y4 g4 y5 g5 y6 g6 y7 g7
        go_wp2_with fail
        go_ret
        exact ⟨rfl, R', HM10.out, by rw [← hR']; exact HBD.out.told (told_drop HBD.out.inv (cutTo contact 80)) (nil_drop HBD.out.inv HBD.out.nil _), by rw [← hR']; exact Step16.drop _⟩
      · have q2 : (act == 2) = false := by simp [a2]
        by_cases a4 : act = 4
        · have q4 : (act == 4) = true := by simp [a4]
          clear a1 a2 a4 b2
          obtain ⟨⟨R', mm, nn, ch, ec⟩, hX⟩ : ∃ X, R.actAll (cutTo contact 80) kind = X := ⟨_, rfl⟩
          have hR' : (R.actAll (cutTo contact 80) kind).1 = R' := by rw [hX]
          have CP := ract_any (Classical.choose_spec HM.out.ro) (HT.out.later HM.out.below) (cutTo contact 80) kind (by have := cutTo_size contact 80; omega) (by have := HBD.out.len; omega) HM.out.below.size HBD.out.next.1 (by have := HBD.out.next; omega) HBD.out.ver.1 (by have := HBD.out.ver; omega)
          rw [hX] at CP
          simp only at CP
          have HCP := Lib.hid CP
          clear CP
          go_wp2_with fail
          refine HCP.out.mono ?_
          rintro r w7 ⟨rfl, hro7, hu7⟩
          have HBO := Lib.hid (HM.out.blkP hu7 HBO.out (by decide))
          have HM := Lib.hid (HM.out.prog hro7 hu7)
          clear hro7 hu7 b4 b5 HCP
          obtain ⟨_, _, _, _, b4, b5⟩ := cellsOp HBO.out
          have CQ := q16act_any HM.out.ref (by rw [HM.out.ref.nm.len]; have := HBD.out.len; omega) HFEW.out (fun k hk => hk.elim) HM.out.below.size HBD.out.ver.1 (by have := HBD.out.ver; omega) HBD.out.next.1 (by have := HBD.out.next; omega) (cutTo contact 80) kind
          rw [hX] at CQ
          simp only at CQ
          have HCQ := Lib.hid CQ
          clear CQ
          go_wp2_with fail
          refine HCQ.out.mono ?_
          rintro r w9 ⟨rfl, hd9⟩
          have HM := Lib.hid (HM.out.refd hd9)
          clear hd9 b4 b5 HCQ
          go_wp2_with fail
          go_ret
          exact ⟨by simp, R', HM.out, by rw [← hR']; exact HBD.out.told (told_act HBD.out.inv (cutTo contact 80) kind) (nil_act HBD.out.inv HBD.out.nil _ _), by rw [← hR']; exact Step16.act _ _⟩
        · have q4 : (act == 4) = false := by simp [a4]
          by_cases a5 : act = 5
          · have q5 : (act == 5) = true := by simp [a5]
            clear a1 a2 a4 a5 b2
            obtain ⟨⟨R', t, dn, ch, ec⟩, hX⟩ : ∃ X, R.hearAll (cutTo contact 80) kind n = X := ⟨_, rfl⟩
            have hR' : (R.hearAll (cutTo contact 80) kind n).1 = R' := by rw [hX]
            have CP := rhear_any (Classical.choose_spec HM.out.ro) (HT.out.later HM.out.below) (cutTo contact 80) kind n (by have := cutTo_size contact 80; omega) (by have := HBD.out.len; omega) HM.out.below.size HBD.out.ver.1 (by have := HBD.out.ver; omega)
            rw [hX] at CP
            simp only at CP
            have HCP := Lib.hid CP
            clear CP
            go_wp2_with fail
            refine HCP.out.mono ?_
            rintro r w7 ⟨rfl, hro7, hu7⟩
            have HBO := Lib.hid (HM.out.blkP hu7 HBO.out (by decide))
            have HM := Lib.hid (HM.out.prog hro7 hu7)
            clear hro7 hu7 b4 b5 HCP
            have hal7 : Below w7.heap.size w7 (w7.alloc (.cells #[.int .i64 t, .bool dn, .bool ch] 63)) := (Below.refl _ _).alloc (Nat.le_refl _) _
            have HM := Lib.hid (HM.out.call hal7)
            have HBO := Lib.hid (blk_alloc HBO.out (.cells #[.int .i64 t, .bool dn, .bool ch] 63))
            have HB7 := Lib.hid (blk_new w7 (.cells #[.int .i64 t, .bool dn, .bool ch] 63))
            clear hal7
            obtain ⟨_, _, _, _, b4, b5⟩ := cellsOp HBO.out
            have CQ := q16hear_any HM.out.ref (by rw [HM.out.ref.nm.len]; have := HBD.out.len; omega) HFEW.out (fun k hk => hk.elim) HM.out.below.size HBD.out.ver.1 (by have := HBD.out.ver; omega) (cutTo contact 80) kind n
            rw [hX] at CQ
            simp only at CQ
            have HCQ := Lib.hid CQ
            clear CQ
            go_wp2_with fail
            refine HCQ.out.mono ?_
            rintro r w9 ⟨rfl, hd9⟩
            have HB7 := Lib.hid (HM.out.blkQ hd9 HB7.out (by decide))
            have HM := Lib.hid (HM.out.refd hd9)
            clear hd9 b4 b5 HCQ
            have hal9 : Below w9.heap.size w9 (w9.alloc (.cells #[.int .i64 t, .bool dn, .bool ch] 63)) := (Below.refl _ _).alloc (Nat.le_refl _) _
            have HM := Lib.hid (HM.out.call hal9)
            have HB7 := Lib.hid (blk_alloc HB7.out (.cells #[.int .i64 t, .bool dn, .bool ch] 63))
            have HB9 := Lib.hid (blk_new w9 (.cells #[.int .i64 t, .bool dn, .bool ch] 63))
            clear hal9
            obtain ⟨x0, x1, x2, _⟩ := cells3 HB7.out
            obtain ⟨y0, y1, y2, _⟩ := cells3 HB9.out
            go_wp2_with fail
            go_ret
            exact ⟨by simp, R', HM.out, by rw [← hR']; exact HBD.out.told (told_hear HBD.out.inv (cutTo contact 80) kind n) (nil_hear HBD.out.inv HBD.out.nil _ _ _), by rw [← hR']; exact Step16.hear _ _ _ hn0⟩
          · have q5 : (act == 5) = false := by simp [a5]
            clear a1 a2 a4 a5 b2 b4 b5
            obtain ⟨⟨ec0, ek, en, eg, ⟨eo, ehn, ei, em⟩⟩, hX⟩ : ∃ X, (R.get (localS (cutTo contact 80)).1).getD (Ent.new ⟨#[]⟩) = X := ⟨_, rfl⟩
            obtain ⟨ec, hX2⟩ : ∃ X, (R.get (localS (cutTo contact 80)).1).isSome = X := ⟨_, rfl⟩
            obtain ⟨R', hR'⟩ : ∃ X, R = X := ⟨_, rfl⟩
            have CP := rget_any (Classical.choose_spec HM.out.ro) (HT.out.later HM.out.below) (cutTo contact 80) (by have := cutTo_size contact 80; omega)
            rw [hX, hX2] at CP
            simp only at CP
            have HCP := Lib.hid CP
            clear CP
            go_wp2_with fail
            refine HCP.out.mono ?_
            rintro r w7 ⟨⟨A7, c7, rfl, hg7⟩, hb7⟩
            have HBO := Lib.hid (blk_below HBO.out hb7 (blk_lt HBO.out))
            have HQS := Lib.hid (HQS.out.below hb7 fun k hk => (HQS.out.lt k hk).2)
            have HM := Lib.hid (HM.out.call hb7)
            clear hb7
            have hal7 : Below w7.heap.size w7 (w7.alloc (.cells #[.string ec0, .bool ek, .string en, .slice A7 eg.length c7, .int .i64 eo, .int .u64 ehn, .int .i64 ei, .int .u64 em] 54)) := (Below.refl _ _).alloc (Nat.le_refl _) _
            have HM := Lib.hid (HM.out.call hal7)
            have HQS := Lib.hid (HQS.out.below hal7 fun k hk => (HQS.out.lt k hk).2)
            have HBO := Lib.hid (blk_alloc HBO.out (.cells #[.string ec0, .bool ek, .string en, .slice A7 eg.length c7, .int .i64 eo, .int .u64 ehn, .int .i64 ei, .int .u64 em] 54))
            have HB7 := Lib.hid (blk_new w7 (.cells #[.string ec0, .bool ek, .string en, .slice A7 eg.length c7, .int .i64 eo, .int .u64 ehn, .int .i64 ei, .int .u64 em] 54))
            have HG7 := Lib.hid (hg7.below hal7)
            clear hg7 HCP hal7
            have CQ := q16get_any HM.out.ref (by rw [HM.out.ref.nm.len]; have := HBD.out.len; omega) HFEW.out HBD.out.nil (cutTo contact 80)
            rw [hX, hX2] at CQ
            simp only at CQ
            have HCQ := Lib.hid CQ
            clear CQ
            go_wp2_with fail
            refine HCQ.out.mono ?_
            rintro r w9 ⟨⟨A9, c9, rfl, hg9⟩, hb9⟩
            have HB7 := Lib.hid (blk_below HB7.out hb9 (blk_lt HB7.out))
            have HG7 := Lib.hid (HG7.out.below hb9)
            have HM := Lib.hid (HM.out.call hb9)
            clear hb9
            have hal9 : Below w9.heap.size w9 (w9.alloc (.cells #[.string ec0, .bool ek, .string en, .slice A9 eg.length c9, .int .i64 eo, .int .u64 ehn, .int .i64 ei, .int .u64 em] 54)) := (Below.refl _ _).alloc (Nat.le_refl _) _
            have HM9 := Lib.hid (HM.out.call hal9)
            have HB7 := Lib.hid (blk_alloc HB7.out (.cells #[.string ec0, .bool ek, .string en, .slice A9 eg.length c9, .int .i64 eo, .int .u64 ehn, .int .i64 ei, .int .u64 em] 54))
            have HB9 := Lib.hid (blk_new w9 (.cells #[.string ec0, .bool ek, .string en, .slice A9 eg.length c9, .int .i64 eo, .int .u64 ehn, .int .i64 ei, .int .u64 em] 54))
            have HG7 := Lib.hid (HG7.out.below hal9)
            have HG9 := Lib.hid (hg9.below hal9)
            clear hg9 HCQ hal9 HQS HBO HM
            obtain ⟨x0, x1, x2, x3, x4, x5, x6, x7, f0, f1, f2, f3, f4, f5, f6, f7⟩ := cells8 HB7.out
            obtain ⟨y0, y1, y2, y3, y4, y5, y6, y7, g0, g1, g2, g3, g4, g5, g6, g7⟩ := cells8 HB9.out
            have HSA := Lib.hid (sameEnt_any (⟨ec0, ek, en, eg, ⟨eo, ehn, ei, em⟩⟩ : Ent) (⟨ec0, ek, en, eg, ⟨eo, ehn, ei, em⟩⟩ : Ent) (.slice A7 eg.length c7) (.slice A9 eg.length c9) _ HG7.out.strs HG9.out.strs)
            go_wp2_with fail
            refine HSA.out.mono ?_
            rintro r w10 ⟨rfl, hb10⟩
            rw [sameE_eq]
            simp only [decide_true]
            have HM10 := Lib.hid (HM9.out.call hb10)
            clear hb10 HSA HM9
            clear x0 f0 x1 f1 x2 f2 x3 f3 x4 f4 x5 f5 x6 f6 x7 f7
            clear y0 g0 y1 g1 y2 g2 y3 g3 y4 g4 y5 g5 y6 g6 y7 g7
            go_wp2_with fail
            go_ret
            exact ⟨rfl, R', by rw [← hR']; exact HM10.out, by rw [← hR']; exact HBD.out.up, by rw [← hR']; exact Step16.none⟩

end Go.Proofs.YthbjcihdlhkboaaGreatDoor

namespace Go.Proofs.YthbjcihdlhkboaaGreatDoor
set_option linter.unusedSimpArgs false
set_option linter.unusedVariables false
open Go.RowKit Go.Maps Go.Shelf Go.Lib

theorem Bd.new {x y : Int} (h1 : 0 ≤ x) (h2 : 0 ≤ y) : Bd (RS.new x y) 0 := ⟨RInv.new h1 h2, by simp [RS.new], by simp [RS.new], by simp [RS.new], by simp [RS.get, RS.new]⟩

set_option maxRecDepth 100000 in
set_option maxHeartbeats 16000000 in
theorem rexact_any (w : World) (hT : Tabs w) (items asks : Int) (A : Option Addr) (L cap : Nat) (E : Nat → OpD) (hops : OpsAt w A L E) (hL : L ≤ 9223372036854775807) :
    Calls Tryz.prog 5 #[.int .i64 items, .int .i64 asks, .slice A L cap] w fun e w' => e = .returned (.bool true) ∧ Below w.heap.size w w' := by
  by_cases hbad : badQ items asks
  · have C1 := Lib.hid (rnew_bad items asks hbad w)
    have C2 := Lib.hid (fun W => q16new_bad items asks hbad W)
    have HT := Lib.hid hT
    clear hbad hops hT
    go_enter Tryz.func5, Tryz.ntmps5
    go_wp2_with fail
    refine C1.out.mono ?_
    rintro e w1 ⟨rfl, hb1⟩
    have HB1 := Lib.hid hb1
    clear hb1
    go_wp2_with fail
    refine (C2.out w1).mono ?_
    rintro e w2 ⟨rfl, hb2⟩
    have HB2 := Lib.hid (HB1.out.trans (hb2.mono HB1.out.size))
    clear hb2
    go_wp2_with fail
    refine (wakes16_any _ (HT.out.later HB2.out)).mono ?_
    rintro e w3 ⟨rfl, hb3⟩
    have HB3 := Lib.hid (HB2.out.trans (hb3.mono HB2.out.size))
    clear hb3
    go_wp2_with fail
    go_ret
    exact ⟨rfl, HB3.out⟩
  · have hbd : 0 ≤ items ∧ items ≤ 10000 ∧ 0 ≤ asks ∧ asks ≤ 10000 := by unfold badQ at hbad; omega
    have C1 := Lib.hid (rnew_any items asks hbd.1 hbd.2.1 hbd.2.2.1 hbd.2.2.2 w)
    have C2 := Lib.hid (fun W => q16new_any items asks hbd.1 hbd.2.1 hbd.2.2.1 hbd.2.2.2 W (fun _ => False))
    have HB0 := Lib.hid (Bd.new hbd.1 hbd.2.2.1)
    have HT := Lib.hid hT
    have HO := Lib.hid hops
    clear hbad hops hT hbd
    go_enter Tryz.func5, Tryz.ntmps5
    go_wp2_with fail
    refine C1.out.mono ?_
    rintro e w1 ⟨rfl, hb1, hl1⟩
    have H1 := Lib.hid (And.intro hb1 hl1)
    clear hb1 hl1
    go_wp2_with fail
    refine (C2.out w1).mono ?_
    rintro e w2 ⟨rfl, hb2, hr2⟩
    have hm : RE2 w w2 (w.heap.size + 1) w.heap.size w1.heap.size (RS.new items asks) (RS.new items asks) :=
      ⟨H1.out.1.trans (hb2.mono H1.out.1.size), ⟨_, H1.out.2.below hb2⟩, hr2.lower H1.out.1.size⟩
    have HM := Lib.hid hm
    clear hm hb2 hr2 H1
    obtain ⟨qb, hqb⟩ : ∃ qb, w1.heap.size = qb := ⟨_, rfl⟩
    obtain ⟨rb, hrb⟩ : ∃ rb, w.heap.size + 1 = rb := ⟨_, rfl⟩
    obtain ⟨mb, hmb⟩ : ∃ mb, w.heap.size = mb := ⟨_, rfl⟩
    have HM : Hid (RE2 w w2 rb mb qb (RS.new items asks) (RS.new items asks)) := Lib.hid (by rw [← hrb, ← hmb, ← hqb]; exact HM.out)
    rw [hqb, hrb]
    clear hqb hrb hmb C1 C2
    go_wp2_with fail
    refine (wakes16_any _ (HT.out.later HM.out.below)).mono ?_
    rintro e w3 ⟨rfl, hb3⟩
    have HM3 := Lib.hid (HM.out.call hb3)
    clear hb3 HM
    go_wp2_with fail
    go_loopg [11] (min L 150) (fun g s11 wx => ∃ (k : Nat) (R : RS), k ≤ min L 150 ∧ g = min L 150 - k ∧ s11 = .int .i64 k ∧ RE2 w wx rb mb qb R R ∧ Bd R k)
    case atStart => exact ⟨0, _, Nat.zero_le _, rfl, rfl, HM3.out, HB0.out⟩
    case round =>
      clear HM3 HB0
      obtain ⟨k, R, hk, hgk, rfl, hm, hbd⟩ := hrel
      have HM := Lib.hid hm
      have HBD := Lib.hid hbd
      have HK := Lib.hid (And.intro hk hgk)
      clear hm hgk hbd
      have hw : IntKind.i64.wrap ((k : Int) + 1) = (k : Int) + 1 := IntWalk.i64_in _ (by omega)
      have t0 : (0 : Int) ≤ (k : Int) := by omega
      by_cases hlt : k < L
      · have t1 : decide ((k : Int) < (L : Int)) = true := by simpa using hlt
        have t1b : (k : Int) < (L : Int) := by omega
        by_cases hl2 : k < 150
        · have t2 : decide ((k : Int) < 150) = true := by simp; omega
          obtain ⟨ab, ao, rfl, hab, hops⟩ := HO.out.at_ (by omega)
          obtain ⟨hcl, hgs, _, _, hn0, _⟩ := hops k hlt
          obtain ⟨o, ho⟩ : ∃ o, E k = o := ⟨_, rfl⟩
          rw [ho] at hcl hgs hn0
          have hb := HM.out.below
          have c : ∀ j, j < 6 → wr.cell? ⟨ab, ao + k * 6 + j, none⟩ = o.cells[j]? := fun j hj => (hb.cell hab).trans (hcl j hj)
          have C := plays16_any HM.out HBD.out HT.out (by omega) o.act o.contact o.name o.gv o.groups o.kind o.n (hgs.below hb) hn0
          have HC := Lib.hid C
          obtain ⟨act, contact, name, gv, groups, kind, n⟩ := o
          have c0 : wr.cell? ⟨ab, ao + k * 6, none⟩ = some (.int .i64 act) := c 0 (by omega)
          have c1 : wr.cell? ⟨ab, ao + k * 6 + 1, none⟩ = some (.string contact) := c 1 (by omega)
          have c2 : wr.cell? ⟨ab, ao + k * 6 + 2, none⟩ = some (.string name) := c 2 (by omega)
          have c3 : wr.cell? ⟨ab, ao + k * 6 + 3, none⟩ = some gv := c 3 (by omega)
          have c4 : wr.cell? ⟨ab, ao + k * 6 + 4, none⟩ = some (.int .i64 kind) := c 4 (by omega)
          have c5 : wr.cell? ⟨ab, ao + k * 6 + 5, none⟩ = some (.int .u64 n) := c 5 (by omega)
          clear C c hb hcl hgs hn0 hops ho hlt
          go_wp2_with fail
          refine HC.out.mono ?_
          rintro e w4 ⟨rfl, R', hm4, hbd4, _⟩
          have H4 := Lib.hid (And.intro hm4 hbd4)
          clear hm4 hbd4 HC c0 c1 c2 c3 c4 c5 HM HBD
          go_wp2_with fail
          refine (sameall_any (Classical.choose_spec H4.out.1.ro) H4.out.1.ref (by have := H4.out.2.len; omega) H4.out.1.keys).mono ?_
          rintro e w5 ⟨rfl, hb5⟩
          have H5 := Lib.hid (And.intro (H4.out.1.call hb5) H4.out.2)
          clear hb5 H4
          go_wp2_with fail
          go_roundg (min L 150 - (k + 1))
          case measure => have := HK.out; omega
          case rel => exact ⟨k + 1, _, by omega, rfl, by go_num, H5.out.1, H5.out.2⟩
        · have t2 : decide ((k : Int) < 150) = false := by simp; omega
          go_wp2_with fail
          go_ret
          exact ⟨rfl, HM.out.below⟩
      · have t1 : decide ((k : Int) < (L : Int)) = false := by simpa using hlt
        go_wp2_with fail
        go_ret
        exact ⟨rfl, HM.out.below⟩

end Go.Proofs.YthbjcihdlhkboaaGreatDoor

namespace Go.Proofs.YthbjcihdlhkboaaGreatDoor
set_option linter.unusedSimpArgs false
set_option linter.unusedVariables false
open Go.RowKit Go.Maps Go.Shelf Go.Lib Go.ChangeShapes Go.WideShapes Go.ChangeAt

/-- The guide's 'returnsInHanded_of_change_and', the world's shape handed on besides. -/
theorem handed_laid {H : Type} {enc : TypeId × Value → H} {a : Assume} {C : Checked} {os : Os} {f : FuncId} {fn : Func} {s : ChangeSpec} {conds : List PathCond} {apart fresh handsOn again : Bool} {X : World → Array Value → Prop}
    (hX : ∀ (w w' : World) (args : Array Value), w.heap = w'.heap → X w args → X w' args)
    (own : ownKnob C.prog.godebug = none) (started : os.Started) (noInit : C.prog.inits.idxOf? f = none) (hfn : C.prog.funcs[f]? = some fn)
    (witness : ∃ (w : World) (tape : Tape) (i : Input), w.os = os ∧ (w.forCall tape i).Shaped C.prog ∧ i.vars = [] ∧ Input.okWide C.prog (w.forCall tape i) .any w.heap.size f i ∧
      ((s.pre enc C.prog fn conds apart (w.forCall tape i).memory i.args ∧ X (w.forCall tape i).memory i.args) ∧ sizedMet enc C.prog fn (OpenSpec.ofChange s) apart (w.forCall tape i).memory i.args) ∧ a.holds C.prog (lone (Frame.enter C.prog f i.args .normal) [] (w.forCall tape i)))
    (contract : ∀ (W : World) (base : Nat) (args : Array Value) (ds gs : List (DataW H)) (before : List MemPlace),
      (∀ (j : Nat) t v, fn.params[j]? = some t → args[j]? = some v → Value.okWide C.prog W .any base t v) →
      DataW.Whole enc C.prog fn.params.toList s.vars apart W args.toList ds gs before → X W args → W.ShapedOpen C.prog →
      Calls C.prog f args W fun e W' => ∃ v, e = .returned v ∧ s.post enc C.prog fn apart fresh handsOn again W args v W') :
    ReturnsInHanded a C os f .any (fun w args => (s.pre enc C.prog fn conds apart w args ∧ X w args) ∧ sizedMet enc C.prog fn (OpenSpec.ofChange s) apart w args) (s.post enc C.prog fn apart fresh handsOn again) := by
  refine returnsInHanded_of_calls own started noInit witness ?_
  intro w tape i _ hsh _ hok hpre hholds
  obtain ⟨_, _, _, fn', hfn', _, _, _, _, hval⟩ := hok
  have e : fn' = fn := Option.some.inj (hfn'.symm.trans hfn)
  subst e
  obtain ⟨⟨⟨ds, gs, before, hw, hc⟩, hx⟩, hz⟩ := hpre
  have hw' := DataW.Whole.of_heap (w' := w.forCall tape i) (by rfl) hw
  refine (contract (w.forCall tape i) w.heap.size i.args ds gs before hval hw' (hX _ _ _ (by rfl) hx) hsh).mono fun e W' ⟨v, he, hp⟩ => ?_
  subst he
  exact ChangeSpec.post_blind hp

theorem rows_own : ownKnob Tryz.prog.godebug = none := by kernel_rfl
theorem rows_laidOut : laidOutB Tryz.prog = true := by kernel_rfl
def laidHere : List (String × DataW Unit) := [("unicode/utf8.acceptRanges", Rows.laid_unicode_utf8_acceptRanges), ("unicode/utf8.first", Rows.laid_unicode_utf8_first)]

set_option maxRecDepth 100000 in
theorem tabs_of_laid {W : World} (hL : laidMetH Tryz.prog laidHere W) (hsh : W.ShapedOpen Tryz.prog) : Tabs W := by
  rw [MakeChecks.laidMetH_plain _ _ _ (by kernel_rfl)] at hL
  have hf : Rows.laid_unicode_utf8_first = Lib.firstData := Pinned.utf8First_eq
  have ha : (Rows.laid_unicode_utf8_acceptRanges : DataW Unit) = Lib.acceptData := by kernel_rfl
  have r1 := Lib.laidMet.reads hL (.tail _ (.head _))
  have r2 := Lib.laidMet.reads hL (.head _)
  rw [hf] at r1
  rw [ha] at r2
  exact ⟨utf8Tabs_of_readsT (U8Types.of196 Tryz.lays196) ⟨by kernel_rfl, by kernel_rfl, by kernel_rfl, by kernel_rfl, by kernel_rfl, by kernel_rfl, by kernel_rfl⟩ r1 r2, Tryz.laysM145.s1_3 W hsh⟩

set_option maxRecDepth 100000 in
theorem strs_of_trod {H : Type} {enc : TypeId × Value → H} {W : World} {fuel : Nat} {x : DataW H × List MemPlace} {v : Value} (hf : DataW.trod enc Tryz.prog W 0 (fun _ => true) true fuel 32 [v] = some x) : ∃ ts, Strs W v ts := by
  rcases Deep.open_strs Tryz.underlying32 Tryz.underlying9 (by kernel_rfl) hf with ⟨he, _⟩ | ⟨a, len, cap, m, Sx, he, _, hlc, hcm, hm, hx, hel⟩
  · simp at he
    subst he
    exact ⟨[], Strs.nil W⟩
  · simp at he
    subst he
    have hmm : m = cap := by simpa using hm
    subst hmm
    refine ⟨(List.range len).map Sx, ⟨⟨some a, m, by simp, fun h0 => ?_⟩, by simp; unfold maxLen at hcm; omega⟩⟩
    have hl : 0 < len := by simpa using h0
    obtain ⟨ab, ao, asp⟩ := a
    have hx0 := (hel 0 (by omega)).1
    have hbl : ab < W.heap.size := by
      have := World.block_lt_of_cell? W _ hx0
      simpa [Addr.add] using this
    have hsp : asp = none := by
      have := World.cell?_spot hx0
      simpa [Addr.add] using this
    subst hsp
    refine ⟨ab, ao, rfl, hbl, fun j hj => ?_⟩
    have hj' : j < len := by simpa using hj
    have hc := (hel j (by omega)).1
    simp only [Addr.add_lit] at hc
    rw [hc]
    simp [List.getD_eq_getElem?_getD, List.getElem?_range hj']

end Go.Proofs.YthbjcihdlhkboaaGreatDoor

namespace Go.Proofs.YthbjcihdlhkboaaGreatDoor
set_option linter.unusedSimpArgs false
set_option linter.unusedVariables false
open Go.RowKit Go.Maps Go.Shelf Go.Lib Go.ChangeShapes Go.WideShapes Go.ChangeAt

set_option maxRecDepth 100000 in
/-- One call, read. -/
theorem opd_read {H : Type} {enc : TypeId × Value → H} {W : World} {fuel : Nat} {x : DataW H × List MemPlace} {cs : List Value} (h : DataW.trod enc Tryz.prog W 0 (fun _ => true) true fuel 47 cs = some x) (hl : cs.length = 6) :
    ∃ o : OpD, (∀ j, j < 6 → cs[j]? = o.cells[j]?) ∧ Strs W o.gv o.groups ∧ o.contact.size ≤ 9223372036854775807 ∧ o.name.size ≤ 9223372036854775807 ∧ 0 ≤ o.n ∧ o.n < 18446744073709551616 := by
  match cs, hl with
  | [c0, c1, c2, c3, c4, c5], _ =>
    obtain ⟨xs, n', _, _, _, hxl, hfs⟩ := DataW.trod_struct Tryz.underlying47 h
    have hsz : ∀ i, i < 6 → ∃ y, xs[i]? = some y := fun i hi => ⟨xs[i]'(by rw [hxl]; exact hi), List.getElem?_eq_getElem _⟩
    have g0 := hfs 0 _ rfl
    have g1 := hfs 1 _ rfl
    have g2 := hfs 2 _ rfl
    have g3 := hfs 3 _ rfl
    have g4 := hfs 4 _ rfl
    have g5 := hfs 5 _ rfl
    obtain ⟨y0, hy0⟩ := hsz 0 (by decide)
    obtain ⟨y1, hy1⟩ := hsz 1 (by decide)
    obtain ⟨y2, hy2⟩ := hsz 2 (by decide)
    obtain ⟨y3, hy3⟩ := hsz 3 (by decide)
    obtain ⟨y4, hy4⟩ := hsz 4 (by decide)
    obtain ⟨y5, hy5⟩ := hsz 5 (by decide)
    have i1 : Tryz.prog.cellsOf 3 = 1 := by kernel_rfl
    have i2 : Tryz.prog.cellsOf 9 = 1 := by kernel_rfl
    have i3 : Tryz.prog.cellsOf 32 = 1 := by kernel_rfl
    have i4 : Tryz.prog.cellsOf 45 = 1 := by kernel_rfl
    change DataW.trod _ _ _ _ _ _ _ 3 (List.take (Tryz.prog.cellsOf 3) _) = _ at g0
    change DataW.trod _ _ _ _ _ _ _ 9 (List.take (Tryz.prog.cellsOf 9) _) = _ at g1
    change DataW.trod _ _ _ _ _ _ _ 9 (List.take (Tryz.prog.cellsOf 9) _) = _ at g2
    change DataW.trod _ _ _ _ _ _ _ 32 (List.take (Tryz.prog.cellsOf 32) _) = _ at g3
    change DataW.trod _ _ _ _ _ _ _ 3 (List.take (Tryz.prog.cellsOf 3) _) = _ at g4
    change DataW.trod _ _ _ _ _ _ _ 45 (List.take (Tryz.prog.cellsOf 45) _) = _ at g5
    rw [i1, hy0] at g0
    rw [i2, hy1] at g1
    rw [i2, hy2] at g2
    rw [i3, hy3] at g3
    rw [i1, hy4] at g4
    rw [i4, hy5] at g5
    obtain ⟨x0, e0, _, _⟩ := DataW.trod_int (cs := [c0]) Tryz.underlying3 g0
    obtain ⟨x1, e1, _, s1⟩ := DataW.trod_string (cs := [c1]) Tryz.underlying9 g1
    obtain ⟨x2, e2, _, s2⟩ := DataW.trod_string (cs := [c2]) Tryz.underlying9 g2
    obtain ⟨ts, hts⟩ := strs_of_trod (v := c3) g3
    obtain ⟨x4, e4, _, _⟩ := DataW.trod_int (cs := [c4]) Tryz.underlying3 g4
    obtain ⟨x5, e5, _, w5⟩ := DataW.trod_int (cs := [c5]) Tryz.underlying45 g5
    simp only [List.cons.injEq, and_true] at e0 e1 e2 e4 e5
    subst e0 e1 e2 e4 e5
    simp [Lit.wf, IntKind.min, IntKind.max, IntKind.signed, IntKind.bits] at w5
    unfold maxLen at s1 s2
    refine ⟨⟨x0, x1, x2, c3, ts, x4, x5⟩, fun j hj => ?_, hts, by simpa using s1, by simpa using s2, by simp only; omega, by simp only; omega⟩
    simp [OpD.cells]

set_option maxRecDepth 100000 in
/-- The argument, as it lies in memory. -/
theorem ops_form {H : Type} {enc : TypeId × Value → H} {W : World} {d : DataW H} {p : List MemPlace} {base : Nat} {v : Value} (hw : Value.okWide Tryz.prog W .any base 41 v)
    (h : DataW.Trod enc Tryz.prog W 0 (fun _ => true) true 41 v d p) :
    ∃ A L cap E, v = .slice A L cap ∧ OpsAt W A L E ∧ L ≤ 9223372036854775807 := by
  obtain ⟨a0, len0, cap0, rfl⟩ := okWide_slice Tryz.underlying41 hw
  obtain ⟨fuel, hf⟩ := h
  have hcs : Tryz.prog.cellsOf 47 = 6 := by kernel_rfl
  rcases Deep.open_slice Tryz.underlying41 hf with ⟨he, _⟩ | ⟨a, len, cap, m, n, D, Pl, he, _, hlc, hcm, hm, hx, hel⟩
  · simp [Value.cells] at he
    obtain ⟨rfl, rfl, rfl⟩ := he
    exact ⟨none, 0, 0, fun _ => ⟨0, .empty, .empty, .slice none 0 0, [], 0, 0⟩, rfl, ⟨fun h => absurd h (by omega)⟩, by omega⟩
  · simp [Value.cells] at he
    obtain ⟨rfl, rfl, rfl⟩ := he
    have hmm : m = cap0 := by simpa using hm
    subst hmm
    rw [hcs] at hel hx
    have key : ∀ i : Nat, ∃ o : OpD, i < len0 → (∀ j, j < 6 → W.cell? ((a.add (i * 6)).add j) = o.cells[j]?) ∧ Strs W o.gv o.groups ∧ o.contact.size ≤ 9223372036854775807 ∧ o.name.size ≤ 9223372036854775807 ∧ 0 ≤ o.n ∧ o.n < 18446744073709551616 := by
      intro i
      by_cases hi : i < len0
      · obtain ⟨cs, h1, h2⟩ := hel i (by omega)
        obtain ⟨_, hl, hc⟩ := World.cells?_some h1
        obtain ⟨o, ho, hr⟩ := opd_read h2 hl
        exact ⟨o, fun _ => ⟨fun j hj => (hc j hj).trans (ho j hj), hr⟩⟩
      · exact ⟨⟨0, .empty, .empty, .slice none 0 0, [], 0, 0⟩, fun h => absurd h hi⟩
    obtain ⟨f, hf2⟩ := Classical.axiomOfChoice key
    refine ⟨some a, len0, _, f, rfl, ⟨fun h0 => ?_⟩, by unfold maxLen at hcm; omega⟩
    have hx0 : W.cell? ((a.add (0 * 6)).add 0) = some (.int .i64 (f 0).act) := (hf2 0 h0).1 0 (by omega)
    have hsp : a.spot = none := by
      have := World.cell?_spot hx0
      simpa [Addr.add] using this
    have hbl : a.block < W.heap.size := by
      have := World.block_lt_of_cell? W _ hx0
      simpa [Addr.add] using this
    obtain ⟨ab, ao, asp⟩ := a
    simp only at hsp hbl
    subst hsp
    refine ⟨ab, ao, rfl, hbl, fun i hi => ⟨fun j hj => ?_, (hf2 i hi).2⟩⟩
    have hc := (hf2 i hi).1 j hj
    simp only [Addr.add_lit] at hc
    exact hc
end Go.Proofs.YthbjcihdlhkboaaGreatDoor
