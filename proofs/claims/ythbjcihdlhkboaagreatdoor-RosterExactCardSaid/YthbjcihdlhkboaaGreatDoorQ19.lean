/- A roster's entries in memory, and those of which something holds, rising: (*Roster).all. Items, Book. What a name and groups are refused with: text, words. -/
import Derived.Deep.LoopGhost
import Derived.Deep.DeepCutAuto
import Derived.Deep.Light
import Derived.Outline
import Derived.Deep.RegionHeld3
import Derived.Test.YthbjcihdlhkboaaGreatDoorQ16
import Derived.Test.YthbjcihdlhkboaaGreatDoorQ17
import Derived.Test.YthbjcihdlhkboaaGreatDoorQ18
namespace Go.Proofs.YthbjcihdlhkboaaGreatDoor
set_option linter.unusedSimpArgs false
set_option linter.unusedVariables false
open Go.RowKit Go.Maps Go.Shelf Go.Lib

/-- Entries, each with the value of its groups, as cells. -/
abbrev Ent.cells (e : Ent) (g : Value) : List Value := [.string e.contact, .bool e.kept, .string e.name, g, .int .i64 e.half.o, .int .u64 e.half.n, .int .i64 e.half.i, .int .u64 e.half.m]
def flatE (es : List (Ent × Value)) : List Value := es.flatMap fun p => p.1.cells p.2
theorem flatE_len (es : List (Ent × Value)) : (flatE es).length = es.length * 8 := by
  induction es with
  | nil => rfl
  | cons e es ih => simp [flatE] at *; omega
theorem flatE_add (es : List (Ent × Value)) (e : Ent) (g : Value) : flatE (es ++ [(e, g)]) = flatE es ++ e.cells g := by simp [flatE]
theorem flatE_get {es : List (Ent × Value)} {i j : Nat} {p : Ent × Value} (h : es[i]? = some p) (hj : j < 8) : (flatE es)[i * 8 + j]? = (p.1.cells p.2)[j]? := by
  induction es generalizing i with
  | nil => simp at h
  | cons e es ih =>
    have hc : flatE (e :: es) = e.1.cells e.2 ++ flatE es := by simp [flatE]
    rw [hc]
    cases i with
    | zero =>
      simp only [List.getElem?_cons_zero, Option.some.injEq] at h
      subst h
      rw [List.getElem?_append_left (by simp; omega)]
      simp
    | succ i =>
      simp only [List.getElem?_cons_succ] at h
      rw [List.getElem?_append_right (by simp; omega)]
      simp only [List.length_cons, List.length_nil]
      rw [show (i + 1) * 8 + j - (0 + 1 + 1 + 1 + 1 + 1 + 1 + 1 + 1) = i * 8 + j by omega]
      exact ih h

theorem Grp.one {w : World} {B : Nat} {v : Value} {gs : List ByteArray} (h : Grp w B v gs) : v.oneCell' = true := by
  obtain ⟨A, c, rfl⟩ := h.shape
  rfl

/-- Entries in memory of their own, from B on. -/
def Ents (w : World) (B : Nat) (v : Value) (l : List Ent) : Prop :=
  ∃ es : List (Ent × Value), es.map (·.1) = l ∧ Seq w B 54 8 v l.length (flatE es) ∧ ∀ p ∈ es, Grp w B p.2 p.1.groups

section
variable {w w' : World} {B : Nat} {v : Value} {l : List Ent}
theorem Grp.below {gs : List ByteArray} {v : Value} (h : Grp w B v gs) (hb : Below w.heap.size w w') : Grp w' B v gs := h.kept fun k cur hc _ => hb.block k (blk_lt hc)
theorem Ents.below (h : Ents w B v l) (hb : Below w.heap.size w w') : Ents w' B v l := by
  obtain ⟨es, h1, h2, h3⟩ := h
  exact ⟨es, h1, h2.below hb (fun k hk => (h2.lt k hk).2), fun p hp => (h3 p hp).below hb⟩
theorem Ents.nil (w : World) (B : Nat) : Ents w B (.slice none 0 0) [] := ⟨[], rfl, Seq.nil _ _ _ _, fun p hp => by cases hp⟩
theorem Ents.shape (h : Ents w B v l) : ∃ A c, v = .slice A l.length c := by obtain ⟨es, _, h2, _⟩ := h; exact h2.shape

theorem RoAtK.keys {rb mb n : Nat} {D : DataW Value} {R : RS} {kc : Int} (h : RoAtK w B rb mb n D R kc) : (R.list.map fun p => bl p.1).Perm (strKeys D) := by
  refine Collected.perm (left := fun _ => false) ⟨?_, fun x => ?_⟩ h.own (string_keyed Tryz.underlying9) Tryz.underlying9 (fun _ => rfl)
  · have := map_bl_nodup h.apart
    rwa [List.map_map] at this
  · have e1 := h.ok.2 (lb x)
    rw [h.isSome] at e1
    simp only [and_true]
    rw [show (Lit.string x) = keyL (lb x) from rfl, e1, RS.mem_list]
    constructor
    · intro hx
      obtain ⟨p, hp, rfl⟩ := List.mem_map.1 hx
      exact List.mem_map.2 ⟨p, hp, by rw [lb_bl]⟩
    · intro hx
      obtain ⟨p, hp, hpx⟩ := List.mem_map.1 hx
      exact List.mem_map.2 ⟨p, hp, by rw [hpx]⟩
end

theorem entInfo : (Tryz.prog.info? 54).map (fun i => (i.zero, i.size, i.bytes)) = some (some (.agg #[.string ⟨#[]⟩, .bool false, .string ⟨#[]⟩, .slice none 0 0, .int .i64 0, .int .u64 0, .int .i64 0, .int .u64 0]), 8, 96) := by kernel_rfl

/-- What a closure over entries answers. -/
def Asks (w : World) (F : Nat) (caps : Array Value) (p : Ent → Bool) : Prop :=
  ∀ W, Below w.heap.size w W → ∀ (e : Ent) (g : Value), Strs W g e.groups → Calls Tryz.prog F (#[e.val g] ++ caps) W fun r w' => r = .returned (.bool (p e)) ∧ Below W.heap.size W w'

/-- The keys of a roster's map, rising, in new memory. -/
theorem rkeys_call {w : World} {B rb mb n : Nat} {D : DataW Value} {R : RS} {kc : Int} (h : RoAtK w B rb mb n D R kc) (hl : R.list.length ≤ 1000000) :
    Calls Tryz.prog 52 #[.func (.func 153) #[] #[.pointer (some ⟨w.heap.size, 0, none⟩)]] (w.alloc (.cells #[.map (some mb)] 109)) fun e w' => ∃ A c, e = .returned (.slice A R.keys.length c) ∧
      Seq w' w.heap.size 9 1 (.slice A R.keys.length c) R.keys.length (R.keys.map fun k => .string (lb k)) ∧ Below w.heap.size w w' := by
  have hs := h.size
  have C := callsIn_wide.1 (Tryz.slices_Sorted_keys_52_112 mb n D tokR w h.own (by unfold maxLen; omega) (by omega))
  refine C.mono ?_
  rintro e w' ⟨v, ss, rfl, hS, hrow, _, hb⟩
  have hk : ss.mergeSort (fun x y => decide (x ≤ y)) = R.keys := sort_perm (hS.trans h.keys.symm)
  rw [hk] at hrow
  have hlen : ss.length = R.keys.length := by rw [← hk]; simp
  rw [hlen] at hrow
  have hb' : Below w.heap.size w w' := ((Below.refl _ _).alloc (Nat.le_refl _) _).trans (hb.mono (by simp))
  rcases hrow.2 with ⟨rfl, h0⟩ | ⟨g, cap, cur, rfl, h1, hc, r1, r2, r3, r4⟩
  · have e0 : R.keys = [] := List.eq_nil_of_length_eq_zero h0
    rw [e0]
    exact ⟨none, 0, rfl, Seq.nil _ _ _ _, hb'⟩
  · exact ⟨_, cap, rfl, ⟨by simp, .inr ⟨g, 0, cap, cur, rfl, by simp at h1; omega, hc, r1, r2, by omega, by simpa using r4⟩⟩, hb'⟩

/-- An entry is laid behind the others. -/
theorem Ents.push {w w' : World} {B : Nat} {v v' : Value} {es : List (Ent × Value)} {e : Ent} {g : Value} (hs : Seq w B 54 8 v es.length (flatE es)) (hg : ∀ p ∈ es, Grp w B p.2 p.1.groups) (hge : Grp w B g e.groups)
    (hs' : Seq w' B 54 8 v' (es.length + 1) (flatE es ++ e.cells g)) (hgr : w.grownBy w' v.ownBlock) : Ents w' B v' (es.map (·.1) ++ [e]) := by
  have keep : ∀ {g : Value} {gs : List ByteArray}, Grp w B g gs → Grp w' B g gs := fun h => h.kept fun k cur hc _ => hgr.block k (blk_lt hc) (fun e1 => by
    obtain ⟨cur2, hc2⟩ := hs.block k e1.symm
    rw [hc] at hc2
    simp at hc2)
  refine ⟨es ++ [(e, g)], by simp, ?_, fun p hp => ?_⟩
  · rw [flatE_add, List.length_append, List.length_map]
    exact hs'
  · rcases List.mem_append.1 hp with hp | hp
    · exact keep (hg p hp)
    · simp at hp; subst hp; exact keep hge

theorem keysCall (mb : Nat) (W : World) : Calls Tryz.prog 112 #[.map (some mb)] W fun e w' => e = .returned (.func (.func 153) #[] #[.pointer (some ⟨W.heap.size, 0, none⟩)]) ∧ w' = W.alloc (.cells #[.map (some mb)] 109) :=
  callsIn_wide.1 (Tryz.maps_Keys_112 (some mb) W)

set_option maxRecDepth 100000 in
set_option maxHeartbeats 8000000 in
theorem all_any {w : World} {B rb mb n : Nat} {D : DataW Value} {R : RS} {kc : Int} (h : RoAtK w B rb mb n D R kc) (hl : R.list.length ≤ 1000000) (hks : ∀ s, (R.get s).isSome = true → s.size ≤ maxLen) (F : Nat) (caps : Array Value) (p : Ent → Bool)
    (hE : ∀ args w, (callFunc F args).run Tryz.prog w = .ok (.enter F args) w) (hF : Asks w F caps p) :
    Calls Tryz.prog 56 #[.pointer (some ⟨rb, 0, none⟩), .func (.func F) #[] caps] w fun r w' => ∃ A c, r = .returned (.slice A (R.all p).length c) ∧ Ents w' w.heap.size (.slice A (R.all p).length c) (R.all p) ∧ Below w.heap.size w w' := by
  have c4 : w.cell? ⟨rb, 4, none⟩ = some (.map (some mb)) := blk_cell h.cells 4
  have zrb := h.lt
  have HR := Lib.hid h
  have HS := Lib.hid (rkeys_call h hl)
  have HF := Lib.hid hF
  have HK := Lib.hid hks
  have HL := Lib.hid hl
  have hkl : R.keys.length = R.list.length := by unfold RS.keys; simp
  have HKL := Lib.hid hkl
  clear h hl hF hks hkl
  go_enter Tryz.func56, Tryz.ntmps56
  go_wp2_with fail
  refine (keysCall mb _).mono ?_
  rintro e w1 ⟨rfl, rfl⟩
  go_wp2_with fail
  refine HS.out.mono ?_
  rintro e w2 ⟨A2, c2, rfl, hseq, hb2⟩
  have HB2 := Lib.hid hb2
  have HQ := Lib.hid hseq
  clear hseq hb2 HS c4
  go_wp2_with fail
  obtain ⟨f, hf⟩ : ∃ f : List UInt8 → Option Ent, (fun k => (R.get (lb k)).filter p) = f := ⟨_, rfl⟩
  have hall : R.all p = R.keys.filterMap f := by unfold RS.all; rw [hf]
  have HF2 := Lib.hid hf
  have HALL := Lib.hid hall
  clear hf hall
  go_loopg [5, 16] R.keys.length (fun g s5 s16 wx => ∃ k : Nat, k ≤ R.keys.length ∧ g = R.keys.length - k ∧ s16 = .int .i64 k ∧ Below w.heap.size w wx ∧ Seq wx w.heap.size 9 1 (.slice A2 R.keys.length c2) R.keys.length (R.keys.map fun k => .string (lb k)) ∧ Ents wx w.heap.size s5 ((R.keys.take k).filterMap f))
  case atStart => exact ⟨0, Nat.zero_le _, rfl, rfl, HB2.out, HQ.out, Ents.nil _ _⟩
  case round =>
    obtain ⟨k, hk, hgk, rfl, hbx, hkeys, hents⟩ := hrel
    have HX := Lib.hid hbx
    have HQ := Lib.hid hkeys
    have HE := Lib.hid hents
    have HG := Lib.hid (And.intro hk hgk)
    obtain ⟨A5, c5, rfl⟩ := hents.shape
    clear hbx hkeys hents hk hgk
    by_cases hlt : k < R.keys.length
    · have t1 : (k : Int) < (R.keys.length : Int) := by omega
      have hmem : (R.get (lb R.keys[k])).isSome = true := RS.mem_keys.1 (List.getElem_mem hlt)
      have hw : IntKind.i64.wrap ((k : Int) + 1) = (k : Int) + 1 := IntWalk.i64_in _ (by have := HL.out; have := HKL.out; omega)
      obtain ⟨b, off, cq, hA, hbb, hbl, hcq⟩ := HQ.out.form (by omega)
      obtain ⟨rfl, rfl⟩ : A2 = some ⟨b, off, none⟩ ∧ c2 = cq := by simpa using hA
      have y : wr.cell? ⟨b, off + k, none⟩ = some (.string (lb R.keys[k])) := by
        rw [HQ.out.cell k (by omega)]
        simp [hlt]
      have hro := HR.out.below HX.out
      have hfk : f R.keys[k] = (R.get (lb R.keys[k])).filter p := by rw [← HF2.out]
      rcases hro.look (lb R.keys[k]) (HK.out _ hmem) with ⟨hg, _⟩ | ⟨GA, gc, e, hg, _, l2, ⟨hec, hgl⟩, hgr⟩
      · rw [hg] at hmem; cases hmem
      rw [hg] at hfk
      obtain ⟨contact, kept, name, groups, ⟨o, hn, i, m⟩⟩ := e
      simp only at hec hgl hgr
      simp only [Ent.val] at l2
      have c4 : wr.cell? ⟨rb, 4, none⟩ = some (.map (some mb)) := blk_cell hro.cells 4
      have hsub : Strs wr (.slice GA groups.length gc) groups := hgr.strs
      obtain ⟨o8, ho8⟩ : ∃ o8 : Obj, (.cells #[.string contact, .bool kept, .string name, .slice GA groups.length gc, .int .i64 o, .int .u64 hn, .int .i64 i, .int .u64 m] 54) = o8 := ⟨_, rfl⟩
      have hA8 : Below w.heap.size w (wr.alloc o8) := HX.out.alloc HX.out.size _
      have C1 := HF.out (wr.alloc o8) hA8 ⟨contact, kept, name, groups, ⟨o, hn, i, m⟩⟩ (.slice GA groups.length gc) (hsub.below ((Below.refl _ _).alloc (Nat.le_refl _) _))
      rw [← ho8] at C1
      have HC1 := Lib.hid C1
      have HGR := Lib.hid (And.intro hgl hgr)
      have HFK := Lib.hid hfk
      clear hfk hgl hgr hec hro hmem hsub hA8 C1 ho8 hg hbb hcq hA
      go_wp2_with fail
      refine HC1.out.mono ?_
      rintro r w3 ⟨rfl, hb3⟩
      have hbx : Below w.heap.size w w3 := (HX.out.alloc HX.out.size _).trans (hb3.mono (by have := HX.out.size; simp; omega))
      have hents3 := (HE.out.below ((Below.refl _ _).alloc (Nat.le_refl _) _)).below hb3
      have hkeys3 := (HQ.out.alloc _).below hb3 (fun k hk => Nat.lt_of_lt_of_le (HQ.out.lt k hk).2 (by simp))
      have hbox := blk_below (blk_new wr (.cells #[.string contact, .bool kept, .string name, .slice GA groups.length gc, .int .i64 o, .int .u64 hn, .int .i64 i, .int .u64 m] 54)) hb3 (by simp)
      have hgr3 := (HGR.out.2.below ((Below.refl _ _).alloc (Nat.le_refl _) (.cells #[.string contact, .bool kept, .string name, .slice GA groups.length gc, .int .i64 o, .int .u64 hn, .int .i64 i, .int .u64 m] 54))).below hb3
      have HX := Lib.hid hbx
      have HE := Lib.hid hents3
      have HQ := Lib.hid hkeys3
      have HG3 := Lib.hid (And.intro HGR.out.1 hgr3)
      have HBX := Lib.hid hbox
      obtain ⟨pe, hpe⟩ : ∃ pe, p ⟨contact, kept, name, groups, ⟨o, hn, i, m⟩⟩ = pe := ⟨_, rfl⟩
      have hfk := HFK.out
      rw [show (some ({ contact := contact, kept := kept, name := name, groups := groups, half := { o := o, n := hn, i := i, m := m } } : Ent)).filter p = if p ⟨contact, kept, name, groups, ⟨o, hn, i, m⟩⟩ = true then some ⟨contact, kept, name, groups, ⟨o, hn, i, m⟩⟩ else none from rfl, hpe] at hfk
      have htk : R.keys.take (k + 1) = R.keys.take k ++ [R.keys[k]] := List.take_succ_eq_append_getElem hlt
      have HFK := Lib.hid (And.intro hfk htk)
      rw [hpe]
      clear hb3 hbx hents3 hkeys3 hbox hgr3 hfk htk hpe HC1 HGR l2 c4 y
      cases pe with
      | false =>
        go_wp2_with fail
        go_roundg (R.keys.length - (k + 1))
        case measure => have := HG.out.2; omega
        case rel =>
          refine ⟨k + 1, by omega, rfl, by go_num, HX.out, HQ.out, ?_⟩
          rw [HFK.out.2, List.filterMap_append, List.filterMap_cons, HFK.out.1]
          simpa using HE.out
      | true =>
        obtain ⟨x0, x1, x2, x3, x4, x5, x6, x7, _⟩ := cells8 HBX.out
        have zb := blk_lt HBX.out
        have CT := Lib.hid (rtwin_any w3 ⟨contact, kept, name, groups, ⟨o, hn, i, m⟩⟩ (.slice GA groups.length gc) HG3.out.2.strs HG3.out.1)
        go_wp2_with fail
        refine CT.out.mono ?_
        rintro r w4 ⟨⟨A4, c4, rfl, hg4⟩, hb4⟩
        have hz3 := HX.out.size
        have hbx := HX.out.trans (hb4.mono HX.out.size)
        have hents4 := HE.out.below hb4
        have hkeys4 := HQ.out.below hb4 (fun k hk => (HQ.out.lt k hk).2)
        have hg4' : Grp w4 w.heap.size (.slice A4 groups.length c4) groups := hg4.lower hz3
        obtain ⟨es, hes, hsq, hgs⟩ := hents4
        have hel : es.length = ((R.keys.take k).filterMap f).length := by rw [← hes]; simp
        rw [← hel] at hsq
        have hkl := HKL.out
        have hll := HL.out
        have hle : es.length ≤ 1000000 := by rw [hel]; exact Nat.le_trans (List.length_filterMap_le _ _) (by rw [List.length_take]; omega)
        have HX := Lib.hid hbx
        have HQ := Lib.hid hkeys4
        have HSQ := Lib.hid (And.intro hsq (And.intro hgs (And.intro hes hel)))
        have HG4 := Lib.hid hg4'
        have HLE := Lib.hid hle
        obtain ⟨i0, hi, hz0, hz1, hz2⟩ := info_parts entInfo
        rw [← hel]
        clear hz3 hbx hkeys4 hg4 hg4' hb4 hes hsq hgs hel hkl hll hle x0 x1 x2 x3 x4 x5 x6 x7 zb CT HE HBX HG3
        go_wp2_with (at_builtin; refine wpList_append_seq _ rfl _ _ 49 rfl w.heap.size 54 i0 (.agg #[.string ⟨#[]⟩, .bool false, .string ⟨#[]⟩, .slice none 0 0, .int .i64 0, .int .u64 0, .int .i64 0, .int .u64 0]) 8 96 Tryz.underlying49 hi hz0 hz1 hz2 rfl _ es.length (flatE es) rfl (HSQ.out.1.alloc _) ⟨w4.heap.size, 0, none⟩ 1 1 [.string contact, .bool kept, .string name, .slice A4 groups.length c4, .int .i64 o, .int .u64 hn, .int .i64 i, .int .u64 m] rfl rfl ?c1 ?c2 (by decide) ?c3 ?c4 ?c5 ?_)
        case c1 => intro j u hu; match j, hu with | 0, hu => simpa [go_sem, Addr.add] using hu | 1, hu => simpa [go_sem, Addr.add] using hu | 2, hu => simpa [go_sem, Addr.add] using hu | 3, hu => simpa [go_sem, Addr.add] using hu | 4, hu => simpa [go_sem, Addr.add] using hu | 5, hu => simpa [go_sem, Addr.add] using hu | 6, hu => simpa [go_sem, Addr.add] using hu | 7, hu => simpa [go_sem, Addr.add] using hu
        case c2 => intro u hu; simp at hu; rcases hu with rfl | rfl | rfl | rfl | rfl | rfl | rfl | rfl <;> rfl
        case c3 => have := HLE.out; unfold maxLen; omega
        case c4 => have := HLE.out; omega
        case c5 => have := HX.out.size; simp; omega
        intro v' w5 hseq' hgrow hat
        have hb5 : Below w.heap.size w w5 := (HX.out.alloc HX.out.size _).grown hgrow (by have := HX.out.size; simp; omega) (fun j hj => (HSQ.out.1.lt j hj).1)
        have hkeys5 := (HQ.out.alloc (.cells #[.string contact, .bool kept, .string name, .slice A4 groups.length c4, .int .i64 o, .int .u64 hn, .int .i64 i, .int .u64 m] 54)).grown_ty (HSQ.out.1.alloc _) (by decide) hgrow
        have hents5 := Ents.push (e := ⟨contact, kept, name, groups, ⟨o, hn, i, m⟩⟩) (HSQ.out.1.alloc _) (fun p hp => (HSQ.out.2.1 p hp).below ((Below.refl _ _).alloc (Nat.le_refl _) _)) (HG4.out.below ((Below.refl _ _).alloc (Nat.le_refl _) _)) hseq' hgrow
        rw [HSQ.out.2.2.1] at hents5
        have htk : (R.keys.take (k + 1)).filterMap f = (R.keys.take k).filterMap f ++ [⟨contact, kept, name, groups, ⟨o, hn, i, m⟩⟩] := by
          rw [HFK.out.2, List.filterMap_append, List.filterMap_cons, HFK.out.1]
          rfl
        rw [← htk] at hents5
        have HX := Lib.hid hb5
        have HQ := Lib.hid hkeys5
        have HE := Lib.hid hents5
        clear hb5 hkeys5 hents5 htk hseq' hgrow hat
        go_wp2_with fail
        go_roundg (R.keys.length - (k + 1))
        case measure => have := HG.out.2; omega
        case rel => exact ⟨k + 1, by omega, rfl, by go_num, HX.out, HQ.out, HE.out⟩
    · obtain rfl : k = R.keys.length := by have := HG.out.1; omega
      have e9 : (R.keys.take R.keys.length).filterMap f = R.all p := by rw [List.take_length]; exact HALL.out.symm
      have hfin := HE.out
      rw [e9] at hfin
      rw [e9]
      have HE := Lib.hid hfin
      have t1 : ¬ (R.keys.length : Int) < (R.keys.length : Int) := by omega
      clear hfin e9
      go_wp2_with fail
      go_ret
      exact ⟨_, _, rfl, HE.out, HX.out⟩

end Go.Proofs.YthbjcihdlhkboaaGreatDoor

namespace Go.Proofs.YthbjcihdlhkboaaGreatDoor
set_option linter.unusedSimpArgs false
set_option linter.unusedVariables false
open Go.RowKit Go.Maps Go.Shelf Go.Lib

set_option maxHeartbeats 1000000 in
theorem items1_any (w : World) : Asks w 57 #[] (·.kept) := by
  intro W hW e g hg
  obtain ⟨contact, kept, name, groups, ⟨o, hn, i, m⟩⟩ := e
  obtain ⟨A, c, rfl⟩ : ∃ A c, g = .slice A groups.length c := let ⟨⟨A, cap, h, _⟩, _⟩ := hg; ⟨A, cap, h⟩
  clear hg
  show Calls Tryz.prog 57 #[_] W _
  go_enter Tryz.func57, Tryz.ntmps57
  go_wp2_with fail
  go_ret
  exact ⟨rfl, (Below.refl _ _).alloc (Nat.le_refl _) _⟩

set_option maxHeartbeats 1000000 in
theorem book1_any (w : World) : Asks w 73 #[] (fun _ => true) := by
  intro W hW e g hg
  obtain ⟨contact, kept, name, groups, ⟨o, hn, i, m⟩⟩ := e
  obtain ⟨A, c, rfl⟩ : ∃ A c, g = .slice A groups.length c := let ⟨⟨A, cap, h, _⟩, _⟩ := hg; ⟨A, cap, h⟩
  clear hg
  show Calls Tryz.prog 73 #[_] W _
  go_enter Tryz.func73, Tryz.ntmps73
  go_wp2_with fail
  go_ret
  exact ⟨rfl, (Below.refl _ _).alloc (Nat.le_refl _) _⟩

set_option maxHeartbeats 1000000 in
theorem items_any {w : World} {B rb mb n : Nat} {D : DataW Value} {R : RS} {kc : Int} (h : RoAtK w B rb mb n D R kc) (hl : R.list.length ≤ 1000000) (hks : ∀ s, (R.get s).isSome = true → s.size ≤ maxLen) :
    Calls Tryz.prog 20 #[.pointer (some ⟨rb, 0, none⟩)] w fun r w' => ∃ A c, r = .returned (.slice A R.kepts.length c) ∧ Ents w' w.heap.size (.slice A R.kepts.length c) R.kepts ∧ Below w.heap.size w w' := by
  have C := Lib.hid (all_any h hl hks 57 #[] (·.kept) (enters_of Tryz.func57 (by kernel_rfl) rfl) (items1_any w))
  clear h hl hks
  go_enter Tryz.func20, Tryz.ntmps20
  go_wp2_with fail
  refine C.out.mono ?_
  rintro e w1 ⟨A, c, rfl, he, hb⟩
  have HE := Lib.hid (And.intro he hb)
  clear he hb
  go_wp2_with fail
  go_ret
  exact ⟨_, _, rfl, HE.out.1, HE.out.2⟩

theorem cells5 {w : World} {b : Nat} {x0 x1 x2 x3 x4 : Value} {T : TypeId} (h : w.heap[b]? = some (.cells #[x0, x1, x2, x3, x4] T)) : w.cell? ⟨b, 0, none⟩ = some x0 ∧ w.cell? ⟨b, 1, none⟩ = some x1 ∧ w.cell? ⟨b, 2, none⟩ = some x2 ∧ w.cell? ⟨b, 3, none⟩ = some x3 ∧ w.cell? ⟨b, 4, none⟩ = some x4 ∧ w.frozen? ⟨b, 0, none⟩ = false ∧ w.frozen? ⟨b, 1, none⟩ = false ∧ w.frozen? ⟨b, 2, none⟩ = false ∧ w.frozen? ⟨b, 3, none⟩ = false ∧ w.frozen? ⟨b, 4, none⟩ = false :=
  ⟨blk_cell h 0, blk_cell h 1, blk_cell h 2, blk_cell h 3, blk_cell h 4, blk_frozen h 0, blk_frozen h 1, blk_frozen h 2, blk_frozen h 3, blk_frozen h 4⟩

theorem Ents.lower {w : World} {B B' : Nat} {v : Value} {l : List Ent} (h : Ents w B v l) (hB : B' ≤ B) : Ents w B' v l := by
  obtain ⟨es, h1, h2, h3⟩ := h
  exact ⟨es, h1, Seq.lower h2 hB, fun p hp => (h3 p hp).lower hB⟩
/-- Entries stand where a block of another kind is written. -/
theorem Ents.set {w : World} {B b : Nat} {v : Value} {l : List Ent} {cs : Array Value} {T : TypeId} (h : Ents w B v l) (hb : w.heap[b]? = some (.cells cs T)) (h1 : T ≠ 54) (h2 : T ≠ 9) (j : Nat) (u : Value) : Ents (w.setCell ⟨b, j, none⟩ u) B v l := by
  obtain ⟨es, e1, e2, e3⟩ := h
  refine ⟨es, e1, e2.setCell u (fun e => ?_), fun p hp => (e3 p hp).kept fun k cur hc _ => Below.heap_setCell w ⟨b, j, none⟩ u k (fun e => ?_)⟩
  · obtain ⟨cur, hc⟩ := e2.block b e
    rw [hb] at hc
    simp at hc
    exact h1 hc.2
  · subst e
    rw [hb] at hc
    simp at hc
    exact h2 hc.2
theorem Ents.set5 {w : World} {B b : Nat} {v : Value} {l : List Ent} {x0 x1 x2 x3 x4 : Value} (h : Ents w B v l) (hb : w.heap[b]? = some (.cells #[x0, x1, x2, x3, x4] 68)) (y0 y1 y2 y3 y4 : Value) :
    Ents (((((w.setCell ⟨b, 0, none⟩ y0).setCell ⟨b, 1, none⟩ y1).setCell ⟨b, 2, none⟩ y2).setCell ⟨b, 3, none⟩ y3).setCell ⟨b, 4, none⟩ y4) B v l :=
  ((((h.set hb (by decide) (by decide) 0 y0).set (blk_set_same hb 0 y0) (by decide) (by decide) 1 y1).set (blk_set_same (blk_set_same hb 0 y0) 1 y1) (by decide) (by decide) 2 y2).set (blk_set_same (blk_set_same (blk_set_same hb 0 y0) 1 y1) 2 y2) (by decide) (by decide) 3 y3).set (blk_set_same (blk_set_same (blk_set_same (blk_set_same hb 0 y0) 1 y1) 2 y2) 3 y3) (by decide) (by decide) 4 y4

structure BookStage (w wx : World) (al : List Ent) (R : RS) (rs : Nat → Option Value) : Prop where
  below : Below w.heap.size w wx
  box : rs 19 = none → wx.heap[w.heap.size]? = some (.cells #[.int .i64 0, .int .i64 0, .int .u64 0, .int .u64 0, .slice none 0 0] 68)
  res : ∀ v, rs 17 = some v → ∃ A c, v = .slice A al.length c ∧ Ents wx w.heap.size v al ∧ (rs 19 ≠ none → wx.heap[w.heap.size]? = some (.cells #[.int .i64 R.items, .int .i64 R.asks, .int .u64 R.ver, .int .u64 R.next, v] 68))

set_option maxRecDepth 100000 in
set_option maxHeartbeats 4000000 in
theorem book_any {w : World} {B rb mb n : Nat} {D : DataW Value} {R : RS} {kc : Int} (h : RoAtK w B rb mb n D R kc) (hl : R.list.length ≤ 1000000) (hks : ∀ s, (R.get s).isSome = true → s.size ≤ maxLen) :
    Calls Tryz.prog 28 #[.pointer (some ⟨rb, 0, none⟩)] w fun r w' => ∃ A c, r = .returned (.agg #[.int .i64 R.items, .int .i64 R.asks, .int .u64 R.ver, .int .u64 R.next, .slice A (R.all fun _ => true).length c]) ∧ Ents w' w.heap.size (.slice A (R.all fun _ => true).length c) (R.all fun _ => true) ∧ Below w.heap.size w w' := by
  obtain ⟨al, hal⟩ : ∃ al, (R.all fun _ => true) = al := ⟨_, rfl⟩
  have C := fun (W : World) (hW : Below w.heap.size w W) => all_any (h.below hW) hl hks 73 #[] (fun _ => true) (enters_of Tryz.func73 (by kernel_rfl) rfl) (book1_any W)
  rw [hal] at C ⊢
  have HC := Lib.hid C
  have r0 : w.cell? ⟨rb, 0, none⟩ = some (.int .i64 R.items) := blk_cell h.cells 0
  have r1 : w.cell? ⟨rb, 1, none⟩ = some (.int .i64 R.asks) := blk_cell h.cells 1
  have r2 : w.cell? ⟨rb, 2, none⟩ = some (.int .u64 R.ver) := blk_cell h.cells 2
  have r3 : w.cell? ⟨rb, 3, none⟩ = some (.int .u64 R.next) := blk_cell h.cells 3
  have hlt := h.lt.1
  have hne : ¬ rb = w.heap.size := by omega
  clear C h hl hks hal
  go_enter Tryz.func28, Tryz.ntmps28
  go_wp2_with fail
  refine Reg.wp_region_puts (A := [[], [0], [1, 0], [2, 1, 0], [], [4], [5, 4], [6, 5, 4], [], [8], [9, 8], [10, 9, 8], [], [12], [13, 12], [14, 13, 12], [], [16], [3, 2, 1, 0, 7, 6, 5, 4, 11, 10, 9, 8, 15, 14, 13, 12, 17, 16], [18, 3, 2, 1, 0, 7, 6, 5, 4, 11, 10, 9, 8, 15, 14, 13, 12, 17, 16]]) (effs := [17, 19]) (N := 22)
    (val := fun i r => match i with | 0 => .pointer (some ⟨rb, 0, none⟩) | 1 => .pointer (some ⟨rb, 0, none⟩) | 2 => .pointer (some ⟨rb, 0, none⟩) | 3 => .int .i64 R.items | 4 => .pointer (some ⟨rb, 0, none⟩) | 5 => .pointer (some ⟨rb, 0, none⟩) | 6 => .pointer (some ⟨rb, 1, none⟩) | 7 => .int .i64 R.asks | 8 => .pointer (some ⟨rb, 0, none⟩) | 9 => .pointer (some ⟨rb, 0, none⟩) | 10 => .pointer (some ⟨rb, 2, none⟩) | 11 => .int .u64 R.ver | 12 => .pointer (some ⟨rb, 0, none⟩) | 13 => .pointer (some ⟨rb, 0, none⟩) | 14 => .pointer (some ⟨rb, 3, none⟩) | 15 => .int .u64 R.next | 16 => .pointer (some ⟨rb, 0, none⟩) | 18 => .agg #[.int .i64 R.items, .int .i64 R.asks, .int .u64 R.ver, .int .u64 R.next, (r 17)] | _ => undef)
    (Stage := fun rs wx => BookStage w wx al R rs)
    (fun rs => [(some 3, .pointer (some ⟨rb, 0, none⟩)), (some 4, .pointer (some ⟨rb, 0, none⟩)), (some 5, .pointer (some ⟨rb, 0, none⟩)), (some 6, .int .i64 R.items), (some 7, .pointer (some ⟨rb, 0, none⟩)), (some 8, .pointer (some ⟨rb, 0, none⟩)), (some 9, .pointer (some ⟨rb, 1, none⟩)), (some 10, .int .i64 R.asks), (some 11, .pointer (some ⟨rb, 0, none⟩)), (some 12, .pointer (some ⟨rb, 0, none⟩)), (some 13, .pointer (some ⟨rb, 2, none⟩)), (some 14, .int .u64 R.ver), (some 15, .pointer (some ⟨rb, 0, none⟩)), (some 16, .pointer (some ⟨rb, 0, none⟩)), (some 17, .pointer (some ⟨rb, 3, none⟩)), (some 18, .int .u64 R.next), (some 19, .pointer (some ⟨rb, 0, none⟩)), (some 20, (rs 17).getD undef), (some 21, .agg #[.int .i64 R.items, .int .i64 R.asks, .int .u64 R.ver, .int .u64 R.next, ((rs 17).getD undef)]), (none, (rs 19).getD undef)])
    (by kernel_rfl) (by kernel_rfl) rfl (fun _ => rfl) ?h0 ?hob ?hend
  case hob =>
    intro i hi
    match i, hi with
    | 0, _ => exact Reg.Ob.pure rfl rfl rfl (fun rs => .pointer (some ⟨rb, 0, none⟩)) (fun _ => rfl) (fun rs wx a hs hd hl hk => by
        have e0 : (a.tmps[0]?).getD undef = .pointer (some ⟨rb, 0, none⟩) := hk 0 (by decide)
        go_simp)
    | 1, _ => exact Reg.Ob.pure rfl rfl rfl (fun rs => .pointer (some ⟨rb, 0, none⟩)) (fun _ => rfl) (fun rs wx a hs hd hl hk => by
        have e3 : (a.tmps[3]?).getD undef = .pointer (some ⟨rb, 0, none⟩) := hk 3 (by decide)
        go_simp)
    | 2, _ => exact Reg.Ob.pure rfl rfl rfl (fun rs => .pointer (some ⟨rb, 0, none⟩)) (fun _ => rfl) (fun rs wx a hs hd hl hk => by
        have e4 : (a.tmps[4]?).getD undef = .pointer (some ⟨rb, 0, none⟩) := hk 4 (by decide)
        go_simp)
    | 3, _ => exact Reg.Ob.pure rfl rfl rfl (fun rs => .int .i64 R.items) (fun _ => rfl) (fun rs wx a hs hd hl hk => by
        have e5 : (a.tmps[5]?).getD undef = .pointer (some ⟨rb, 0, none⟩) := hk 5 (by decide)
        have c : wx.cell? ⟨rb, 0, none⟩ = some (.int .i64 R.items) := (hs.below.cell (p := ⟨rb, 0, none⟩) hlt).trans r0
        go_simp)
    | 4, _ => exact Reg.Ob.pure rfl rfl rfl (fun rs => .pointer (some ⟨rb, 0, none⟩)) (fun _ => rfl) (fun rs wx a hs hd hl hk => by
        have e0 : (a.tmps[0]?).getD undef = .pointer (some ⟨rb, 0, none⟩) := hk 0 (by decide)
        go_simp)
    | 5, _ => exact Reg.Ob.pure rfl rfl rfl (fun rs => .pointer (some ⟨rb, 0, none⟩)) (fun _ => rfl) (fun rs wx a hs hd hl hk => by
        have e7 : (a.tmps[7]?).getD undef = .pointer (some ⟨rb, 0, none⟩) := hk 7 (by decide)
        go_simp)
    | 6, _ => exact Reg.Ob.pure rfl rfl rfl (fun rs => .pointer (some ⟨rb, 1, none⟩)) (fun _ => rfl) (fun rs wx a hs hd hl hk => by
        have e8 : (a.tmps[8]?).getD undef = .pointer (some ⟨rb, 0, none⟩) := hk 8 (by decide)
        go_simp)
    | 7, _ => exact Reg.Ob.pure rfl rfl rfl (fun rs => .int .i64 R.asks) (fun _ => rfl) (fun rs wx a hs hd hl hk => by
        have e9 : (a.tmps[9]?).getD undef = .pointer (some ⟨rb, 1, none⟩) := hk 9 (by decide)
        have c : wx.cell? ⟨rb, 1, none⟩ = some (.int .i64 R.asks) := (hs.below.cell (p := ⟨rb, 1, none⟩) hlt).trans r1
        go_simp)
    | 8, _ => exact Reg.Ob.pure rfl rfl rfl (fun rs => .pointer (some ⟨rb, 0, none⟩)) (fun _ => rfl) (fun rs wx a hs hd hl hk => by
        have e0 : (a.tmps[0]?).getD undef = .pointer (some ⟨rb, 0, none⟩) := hk 0 (by decide)
        go_simp)
    | 9, _ => exact Reg.Ob.pure rfl rfl rfl (fun rs => .pointer (some ⟨rb, 0, none⟩)) (fun _ => rfl) (fun rs wx a hs hd hl hk => by
        have e11 : (a.tmps[11]?).getD undef = .pointer (some ⟨rb, 0, none⟩) := hk 11 (by decide)
        go_simp)
    | 10, _ => exact Reg.Ob.pure rfl rfl rfl (fun rs => .pointer (some ⟨rb, 2, none⟩)) (fun _ => rfl) (fun rs wx a hs hd hl hk => by
        have e12 : (a.tmps[12]?).getD undef = .pointer (some ⟨rb, 0, none⟩) := hk 12 (by decide)
        go_simp)
    | 11, _ => exact Reg.Ob.pure rfl rfl rfl (fun rs => .int .u64 R.ver) (fun _ => rfl) (fun rs wx a hs hd hl hk => by
        have e13 : (a.tmps[13]?).getD undef = .pointer (some ⟨rb, 2, none⟩) := hk 13 (by decide)
        have c : wx.cell? ⟨rb, 2, none⟩ = some (.int .u64 R.ver) := (hs.below.cell (p := ⟨rb, 2, none⟩) hlt).trans r2
        go_simp)
    | 12, _ => exact Reg.Ob.pure rfl rfl rfl (fun rs => .pointer (some ⟨rb, 0, none⟩)) (fun _ => rfl) (fun rs wx a hs hd hl hk => by
        have e0 : (a.tmps[0]?).getD undef = .pointer (some ⟨rb, 0, none⟩) := hk 0 (by decide)
        go_simp)
    | 13, _ => exact Reg.Ob.pure rfl rfl rfl (fun rs => .pointer (some ⟨rb, 0, none⟩)) (fun _ => rfl) (fun rs wx a hs hd hl hk => by
        have e15 : (a.tmps[15]?).getD undef = .pointer (some ⟨rb, 0, none⟩) := hk 15 (by decide)
        go_simp)
    | 14, _ => exact Reg.Ob.pure rfl rfl rfl (fun rs => .pointer (some ⟨rb, 3, none⟩)) (fun _ => rfl) (fun rs wx a hs hd hl hk => by
        have e16 : (a.tmps[16]?).getD undef = .pointer (some ⟨rb, 0, none⟩) := hk 16 (by decide)
        go_simp)
    | 15, _ => exact Reg.Ob.pure rfl rfl rfl (fun rs => .int .u64 R.next) (fun _ => rfl) (fun rs wx a hs hd hl hk => by
        have e17 : (a.tmps[17]?).getD undef = .pointer (some ⟨rb, 3, none⟩) := hk 17 (by decide)
        have c : wx.cell? ⟨rb, 3, none⟩ = some (.int .u64 R.next) := (hs.below.cell (p := ⟨rb, 3, none⟩) hlt).trans r3
        go_simp)
    | 16, _ => exact Reg.Ob.pure rfl rfl rfl (fun rs => .pointer (some ⟨rb, 0, none⟩)) (fun _ => rfl) (fun rs wx a hs hd hl hk => by
        have e0 : (a.tmps[0]?).getD undef = .pointer (some ⟨rb, 0, none⟩) := hk 0 (by decide)
        go_simp)
    | 17, _ =>
      refine Reg.Ob.eff rfl rfl rfl ?_
      intro rs wx a hs hd hn hl hk K hK
      have e19 : (a.tmps[19]?).getD undef = .pointer (some ⟨rb, 0, none⟩) := hk 19 (by decide)
      have C := Lib.hid (HC.out wx hs.below)
      have HS := Lib.hid hs
      have HN := Lib.hid (hl 19 (by decide))
      have HKK := Lib.hid hK
      clear hs hn hd hl hk hK
      go_simp
      refine C.out.mono ?_
      rintro e w1 ⟨A, c, rfl, he, hb⟩
      refine HKK.out _ _ ⟨HS.out.below.trans (hb.mono HS.out.below.size), fun _ => blk_below (HS.out.box HN.out) hb (blk_lt (HS.out.box HN.out)), fun v hv => ?_⟩
      have hv2 : some (Value.slice A al.length c) = some v := hv
      cases hv2
      exact ⟨A, c, rfl, he.lower HS.out.below.size, fun h => absurd HN.out h⟩
    | 18, _ => exact Reg.Ob.pure rfl rfl rfl (fun rs => .agg #[.int .i64 R.items, .int .i64 R.asks, .int .u64 R.ver, .int .u64 R.next, ((rs 17).getD undef)]) (fun _ => rfl) (fun rs wx a hs hd hl hk => by
        have e6 : (a.tmps[6]?).getD undef = .int .i64 R.items := hk 6 (by decide)
        have e10 : (a.tmps[10]?).getD undef = .int .i64 R.asks := hk 10 (by decide)
        have e14 : (a.tmps[14]?).getD undef = .int .u64 R.ver := hk 14 (by decide)
        have e18 : (a.tmps[18]?).getD undef = .int .u64 R.next := hk 18 (by decide)
        have e20 : (a.tmps[20]?).getD undef = ((rs 17).getD undef) := hk 20 (by decide)
        obtain ⟨v, hv⟩ := hd 17 (by decide) (by decide)
        obtain ⟨A, c, rfl, _⟩ := hs.res v hv
        rw [hv] at e20 ⊢
        simp only [Option.getD_some] at e20 ⊢
        clear hv hs hd hl hk
        go_simp)
    | 19, _ =>
      refine Reg.Ob.eff rfl rfl rfl ?_
      intro rs wx a hs hd hn hl hk K hK
      have e2 : (a.tmps[2]?).getD undef = .pointer (some ⟨w.heap.size, 0, none⟩) := hk 2 (by decide)
      have e21 : (a.tmps[21]?).getD undef = .agg #[.int .i64 R.items, .int .i64 R.asks, .int .u64 R.ver, .int .u64 R.next, ((rs 17).getD undef)] := hk 21 (by decide)
      obtain ⟨v, hv⟩ := hd 17 (by decide) (by decide)
      obtain ⟨A, c, rfl, hE, _⟩ := hs.res v hv
      rw [hv] at e21
      simp only [Option.getD_some] at e21
      have hbx := hs.box hn
      obtain ⟨x0, x1, x2, x3, x4, y0, y1, y2, y3, y4⟩ := cells5 hbx
      have HS := Lib.hid (And.intro hs.below (And.intro hE (And.intro hbx hv)))
      have HKK := Lib.hid hK
      clear hs hn hd hl hk hK hv hE hbx
      go_simp
      obtain ⟨hb, hE, hbx, hv⟩ := HS.out
      refine HKK.out undef _ ⟨?_, fun h => by simp [Reg.upd] at h, fun v' hv' => ?_⟩
      · exact ((((hb.setCell (Nat.le_refl _) _).setCell (Nat.le_refl _) _).setCell (Nat.le_refl _) _).setCell (Nat.le_refl _) _).setCell (Nat.le_refl _) _
      · have : some (Value.slice A al.length c) = some v' := hv.symm.trans hv'
        cases this
        exact ⟨A, c, rfl, hE.set5 hbx _ _ _ _ _, fun _ => blk_set5 hbx _ _ _ _ _⟩
    | n + 20, h => exact absurd h (by simp <;> omega)
  case h0 =>
    refine ⟨((Below.refl _ _).alloc (Nat.le_refl _) _).drew, fun _ => blk_drew (blk_new w _), fun v hv => by cases hv⟩
  case hend =>
    intro rs wx hs hd
    obtain ⟨v, hv⟩ := hd 17 (by decide) (by decide)
    obtain ⟨u, hu⟩ := hd 19 (by decide) (by decide)
    obtain ⟨A, c, rfl, hE, hbx⟩ := hs.res v hv
    have hbx := hbx (by rw [hu]; simp)
    have HS := Lib.hid (And.intro hs.below hE)
    obtain ⟨x0, x1, x2, x3, x4, _⟩ := cells5 hbx
    clear hs hd hE hbx hu
    simp only [List.foldl_cons, List.foldl_nil, Act.put, List.setIfInBounds_toArray, List.set_cons_zero, List.set_cons_succ]
    go_wp2_with fail
    simp [bodyPost, results, Tryz.results28, go_sem, x0, x1, x2, x3, x4]
    exact ⟨A, c, ⟨rfl, rfl⟩, HS.out.2, HS.out.1⟩

end Go.Proofs.YthbjcihdlhkboaaGreatDoor

namespace Go.Proofs.YthbjcihdlhkboaaGreatDoor
set_option linter.unusedSimpArgs false
set_option linter.unusedVariables false
open Go.RowKit Go.Maps Go.Shelf Go.Lib

theorem textE_ok {s : ByteArray} (h : textE s = 0) : s.size ≤ 64 ∧ validB s = true := by
  unfold textE at h
  split at h
  · omega
  · split at h
    · omega
    · rename_i h1 h2; exact ⟨by omega, by simpa using h2⟩
theorem textE_no {s : ByteArray} (h : textE s ≠ 0) : (64 < s.size ∧ textE s = 5) ∨ (s.size ≤ 64 ∧ validB s = false ∧ textE s = 4) := by
  unfold textE at *
  split at h
  · rename_i h1; exact .inl ⟨h1, by rw [if_pos h1]⟩
  · rename_i h1
    split at h
    · rename_i h2; exact .inr ⟨by omega, h2, by rw [if_neg h1, if_pos h2]⟩
    · omega

set_option maxHeartbeats 1000000 in
theorem rtext_ok (s : ByteArray) (w : World) (hT : Tabs w) (hs : s.size ≤ 9223372036854775807) (h : textE s = 0) :
    Calls Tryz.prog 114 #[.string s] w fun e w' => e = .returned (.tuple #[]) ∧ Below w.heap.size w w' := by
  obtain ⟨h1, h2⟩ := textE_ok h
  have C := Lib.hid (valid_any s w hT hs)
  unfold validB at h2
  rw [h2] at C
  have t1 : decide ((s.size : Int) ≤ 64) = true := by simp; omega
  have t2 : (s.size : Int) ≤ 64 := by omega
  clear h h1 h2 hT hs
  go_enter Tryz.func114, Tryz.ntmps114
  go_wp2_with fail
  refine (rmust_yes 5 _).mono ?_
  rintro e w1 ⟨rfl, rfl⟩
  go_wp2_with fail
  refine (C.out _ (Below.refl _ _)).mono ?_
  rintro e w2 ⟨rfl, hb2⟩
  go_wp2_with fail
  refine (rmust_yes 4 _).mono ?_
  rintro e w3 ⟨rfl, rfl⟩
  go_wp2_with fail
  go_end0
  exact ⟨rfl, hb2⟩

set_option maxHeartbeats 1000000 in
theorem rtext_no (s : ByteArray) (w : World) (hT : Tabs w) (hs : s.size ≤ 9223372036854775807) (h : textE s ≠ 0) :
    Calls Tryz.prog 114 #[.string s] w fun e w' => e = .panicked [{ v := rfailsV (textE s), recovered := false }] ∧ Below w.heap.size w w' := by
  have C := Lib.hid (valid_any s w hT hs)
  rcases textE_no h with ⟨h1, h2⟩ | ⟨h1, h2, h3⟩
  · rw [h2]
    have t1 : decide ((s.size : Int) ≤ 64) = false := by simp; omega
    have t2 : ¬ (s.size : Int) ≤ 64 := by omega
    clear h h1 h2 hT hs C
    go_enter Tryz.func114, Tryz.ntmps114
    go_wp2_with fail
    refine (rmust_no 5 (by decide) _).mono ?_
    rintro e w1 ⟨rfl, rfl⟩
    go_wp2_with fail
    exact ⟨rfl, rfl, Below.refl _ _⟩
  · rw [h3]
    unfold validB at h2
    rw [h2] at C
    have t1 : decide ((s.size : Int) ≤ 64) = true := by simp; omega
    have t2 : (s.size : Int) ≤ 64 := by omega
    clear h h1 h2 h3 hT hs
    go_enter Tryz.func114, Tryz.ntmps114
    go_wp2_with fail
    refine (rmust_yes 5 _).mono ?_
    rintro e w1 ⟨rfl, rfl⟩
    go_wp2_with fail
    refine (C.out _ (Below.refl _ _)).mono ?_
    rintro e w2 ⟨rfl, hb2⟩
    go_wp2_with fail
    refine (rmust_no 4 (by decide) _).mono ?_
    rintro e w3 ⟨rfl, rfl⟩
    go_wp2_with fail
    exact ⟨rfl, rfl, hb2⟩

/-- How words ends. -/
def WordsEnd (c : Int) (e : Ending) : Prop := if c = 0 then e = .returned (.tuple #[]) else e = .panicked [{ v := rfailsV c, recovered := false }]

theorem WordsEnd.ok : WordsEnd 0 (.returned (.tuple #[])) := by unfold WordsEnd; rw [if_pos rfl]
theorem WordsEnd.no {c : Int} (h : c ≠ 0) : WordsEnd c (.panicked [{ v := rfailsV c, recovered := false }]) := by unfold WordsEnd; rw [if_neg h]

set_option maxRecDepth 100000 in
set_option maxHeartbeats 4000000 in
theorem words_any (l : ByteArray) (v : Value) (gs : List ByteArray) (w : World) (hT : Tabs w) (hl : l.size ≤ 9223372036854775807) (hg : Strs w v gs) (hgs : ∀ g ∈ gs, g.size ≤ 9223372036854775807) :
    Calls Tryz.prog 61 #[.string l, v] w fun e w' => WordsEnd (wordsE l gs) e ∧ Below w.heap.size w w' := by
  obtain ⟨A, cap, hv⟩ : ∃ A cap, v = .slice A gs.length cap := let ⟨⟨A, cap, h, _⟩, _⟩ := hg; ⟨A, cap, h⟩
  subst hv
  have hlen := hg.2
  have HG := Lib.hid hg
  have HGS := Lib.hid hgs
  have HT := Lib.hid hT
  by_cases h1 : textE l = 0
  · have C := Lib.hid (rtext_ok l w hT hl h1)
    by_cases h2 : 8 < gs.length
    · have hw : wordsE l gs = 5 := by unfold wordsE; rw [if_neg (by simpa using h1), if_pos h2]
      rw [hw]
      have t1 : decide ((gs.length : Int) ≤ 8) = false := by simp; omega
      have t2 : ¬ (gs.length : Int) ≤ 8 := by omega
      clear h1 h2 hw hT hl hg hgs
      go_enter Tryz.func61, Tryz.ntmps61
      go_wp2_with fail
      refine C.out.mono ?_
      rintro e w1 ⟨rfl, hb1⟩
      go_wp2_with fail
      refine (rmust_no 5 (by decide) _).mono ?_
      rintro e w2 ⟨rfl, rfl⟩
      go_wp2_with fail
      exact ⟨rfl, WordsEnd.no (by decide), hb1⟩
    · have hw : wordsE l gs = groupsE gs := by unfold wordsE; rw [if_neg (by simpa using h1), if_neg h2]
      obtain ⟨ge, hge⟩ : ∃ ge, groupsE gs = ge := ⟨_, rfl⟩
      rw [hw, hge]
      have HGE := Lib.hid hge
      clear hge
      have t1 : decide ((gs.length : Int) ≤ 8) = true := by simp; omega
      have t2 : (gs.length : Int) ≤ 8 := by omega
      have HL := Lib.hid hlen
      clear h1 h2 hw hT hl hg hgs
      go_enter Tryz.func61, Tryz.ntmps61
      go_wp2_with fail
      refine C.out.mono ?_
      rintro e w1 ⟨rfl, hb1⟩
      go_wp2_with fail
      refine (rmust_yes 5 _).mono ?_
      rintro e w2 ⟨rfl, rfl⟩
      have HB := Lib.hid hb1
      clear hb1
      go_wp2_with fail
      go_loopg [14] gs.length (fun g s14 wx => ∃ k : Nat, k ≤ gs.length ∧ g = gs.length - k ∧ s14 = .int .i64 k ∧ ge = groupsE (gs.drop k) ∧ Below w.heap.size w wx)
      case atStart => exact ⟨0, Nat.zero_le _, rfl, rfl, HGE.out.symm, HB.out⟩
      case round =>
        obtain ⟨k, hk, hgk, rfl, hge, hbx⟩ := hrel
        have HX := Lib.hid hbx
        have HK := Lib.hid (And.intro hk (And.intro hgk hge))
        clear hbx hk hgk hge
        by_cases hlt : k < gs.length
        · have t3 : (k : Int) < (gs.length : Int) := by omega
          have hd : gs.drop k = gs[k] :: gs.drop (k + 1) := List.drop_eq_getElem_cons hlt
          obtain ⟨b, off, rfl, y⟩ : ∃ b off, A = some ⟨b, off, none⟩ ∧ wr.cell? ⟨b, off + k, none⟩ = some (.string gs[k]) := by
            obtain ⟨⟨A', cap', hv, hf⟩, _⟩ := HG.out
            obtain ⟨b, off, hA, hlb, hc⟩ := hf (by omega)
            obtain ⟨rfl, rfl⟩ : A = A' ∧ cap = cap' := by simpa using hv
            refine ⟨b, off, hA, (HX.out.cell hlb).trans ((hc k hlt).trans ?_)⟩
            rw [List.getD_eq_getElem?_getD, List.getElem?_eq_getElem hlt]; rfl
          have hgl := HGS.out gs[k] (List.getElem_mem hlt)
          have hT2 := HT.out.later HX.out
          have hge := HK.out.2.2
          rw [hd] at hge
          have HK := Lib.hid (And.intro HK.out.1 (And.intro HK.out.2.1 hge))
          clear hge hd
          generalize gs[k] = t at *
          have hw : IntKind.i64.wrap ((k : Int) + 1) = (k : Int) + 1 := IntWalk.i64_in _ (by omega)
          by_cases h3 : textE t = 0
          · have C3 := Lib.hid (rtext_ok t wr hT2 hgl h3)
            by_cases h4 : t.size = 0
            · have hres : ge = 4 := by rw [HK.out.2.2]; show (if textE t ≠ 0 then textE t else if t.size = 0 then 4 else groupsE (gs.drop (k + 1))) = 4; rw [if_neg (by simpa using h3), if_pos h4]
              subst hres
              have te : t = ⟨#[]⟩ := by
                obtain ⟨d⟩ := t
                have : d = #[] := Array.eq_empty_of_size_eq_zero h4
                rw [this]
              subst te
              clear h3 h4 hT2 hgl
              go_wp2_with fail
              refine C3.out.mono ?_
              rintro e w3 ⟨rfl, hb3⟩
              go_wp2_with fail
              refine (rmust_no 4 (by decide) _).mono ?_
              rintro e w4 ⟨rfl, rfl⟩
              go_wp2_with fail
              exact ⟨rfl, WordsEnd.no (by decide), HX.out.trans (hb3.mono HX.out.size)⟩
            · have hres : ge = groupsE (gs.drop (k + 1)) := by rw [HK.out.2.2]; show (if textE t ≠ 0 then textE t else if t.size = 0 then 4 else groupsE (gs.drop (k + 1))) = _; rw [if_neg (by simpa using h3), if_neg h4]
              have HR := Lib.hid hres
              have t5 : t.toList.isEmpty = false := by
                obtain ⟨⟨d⟩⟩ := t
                cases d with
                | nil => exact absurd rfl h4
                | cons x xs => rw [Lib.toList_data]; rfl
              clear h3 h4 hT2 hgl hres
              go_wp2_with fail
              refine C3.out.mono ?_
              rintro e w3 ⟨rfl, hb3⟩
              have HX := Lib.hid (HX.out.trans (hb3.mono HX.out.size))
              clear hb3
              go_wp2_with fail
              refine (rmust_yes 4 _).mono ?_
              rintro e w4 ⟨rfl, rfl⟩
              go_wp2_with fail
              go_roundg (gs.length - (k + 1))
              case measure => have := HK.out.2.1; omega
              case rel => exact ⟨k + 1, by omega, rfl, by go_num, HR.out, HX.out⟩
          · have hres : ge = textE t := by rw [HK.out.2.2]; show (if textE t ≠ 0 then textE t else if t.size = 0 then 4 else groupsE (gs.drop (k + 1))) = _; rw [if_pos (by simpa using h3)]
            have C3 := Lib.hid (rtext_no t wr hT2 hgl h3)
            have HR := Lib.hid (And.intro hres h3)
            clear h3 hT2 hgl hres
            go_wp2_with fail
            refine C3.out.mono ?_
            rintro e w3 ⟨rfl, hb3⟩
            go_wp2_with fail
            exact ⟨rfl, by rw [HR.out.1]; exact WordsEnd.no HR.out.2, HX.out.trans (hb3.mono HX.out.size)⟩
        · have hres : ge = 0 := by rw [HK.out.2.2, List.drop_of_length_le (by have := HK.out.1; omega)]; rfl
          subst hres
          have t3 : ¬ (k : Int) < (gs.length : Int) := by omega
          go_wp2_with fail
          go_end0
          exact ⟨WordsEnd.ok, HX.out⟩
  · have hw : wordsE l gs = textE l := by unfold wordsE; rw [if_pos (by simpa using h1)]
    have C := Lib.hid (rtext_no l w hT hl h1)
    rw [hw]
    have HR := Lib.hid h1
    clear h1 hw hT hl hg hgs
    go_enter Tryz.func61, Tryz.ntmps61
    go_wp2_with fail
    refine C.out.mono ?_
    rintro e w1 ⟨rfl, hb1⟩
    go_wp2_with fail
    exact ⟨rfl, WordsEnd.no HR.out, hb1⟩

end Go.Proofs.YthbjcihdlhkboaaGreatDoor
