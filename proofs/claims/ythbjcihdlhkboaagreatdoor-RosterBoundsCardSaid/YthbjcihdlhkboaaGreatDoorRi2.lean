/- A roster's entries in memory, and those of which something holds, rising: (*Roster).all. -/
import Derived.Test.YthbjcihdlhkboaaGreatDoorRi1
import Derived.Deep.LoopGhost
import Derived.Deep.DeepCutAuto
import Derived.Deep.Light
import Derived.Outline
namespace Go.Proofs.YthbjcihdlhkboaaGreatDoor
set_option linter.unusedSimpArgs false
set_option linter.unusedVariables false
open Go.RowKit Go.Maps Go.Shelf Go.Lib

/-- Entries, each with the value of its groups, as cells. -/
abbrev Ent.cells (e : Ent) (g : Value) : List Value := [.string e.contact, .bool e.kept, .string e.name, g, .int .i64 e.half.o, .int .u64 e.half.n, .int .i64 e.half.i, .int .u64 e.half.m]
def flatE (es : List (Ent × Value)) : List Value := es.flatMap fun p => p.1.cells p.2
theorem flatE_len (es : List (Ent × Value)) : (flatE es).length = es.length * 8 := by
  induction es with
  | nil => rfl
  | cons e es ih => simp [flatE] at *; omega
theorem flatE_add (es : List (Ent × Value)) (e : Ent) (g : Value) : flatE (es ++ [(e, g)]) = flatE es ++ e.cells g := by simp [flatE]
theorem flatE_get {es : List (Ent × Value)} {i j : Nat} {p : Ent × Value} (h : es[i]? = some p) (hj : j < 8) : (flatE es)[i * 8 + j]? = (p.1.cells p.2)[j]? := by
  induction es generalizing i with
  | nil => simp at h
  | cons e es ih =>
    have hc : flatE (e :: es) = e.1.cells e.2 ++ flatE es := by simp [flatE]
    rw [hc]
    cases i with
    | zero =>
      simp only [List.getElem?_cons_zero, Option.some.injEq] at h
      subst h
      rw [List.getElem?_append_left (by simp; omega)]
      simp
    | succ i =>
      simp only [List.getElem?_cons_succ] at h
      rw [List.getElem?_append_right (by simp; omega)]
      simp only [List.length_cons, List.length_nil]
      rw [show (i + 1) * 8 + j - (0 + 1 + 1 + 1 + 1 + 1 + 1 + 1 + 1) = i * 8 + j by omega]
      exact ih h

theorem Grp.one {w : World} {B : Nat} {v : Value} {gs : List ByteArray} (h : Grp w B v gs) : v.oneCell' = true := by
  obtain ⟨A, c, rfl⟩ := h.shape
  rfl

/-- Entries in memory of their own, from B on. -/
def Ents (w : World) (B : Nat) (v : Value) (l : List Ent) : Prop :=
  ∃ es : List (Ent × Value), es.map (·.1) = l ∧ Seq w B 54 8 v l.length (flatE es) ∧ ∀ p ∈ es, Grp w B p.2 p.1.groups

section
variable {w w' : World} {B : Nat} {v : Value} {l : List Ent}
theorem Grp.below {gs : List ByteArray} {v : Value} (h : Grp w B v gs) (hb : Below w.heap.size w w') : Grp w' B v gs := h.kept fun k cur hc _ => hb.block k (blk_lt hc)
theorem Ents.below (h : Ents w B v l) (hb : Below w.heap.size w w') : Ents w' B v l := by
  obtain ⟨es, h1, h2, h3⟩ := h
  exact ⟨es, h1, h2.below hb (fun k hk => (h2.lt k hk).2), fun p hp => (h3 p hp).below hb⟩
theorem Ents.nil (w : World) (B : Nat) : Ents w B (.slice none 0 0) [] := ⟨[], rfl, Seq.nil _ _ _ _, fun p hp => by cases hp⟩
theorem Ents.shape (h : Ents w B v l) : ∃ A c, v = .slice A l.length c := by obtain ⟨es, _, h2, _⟩ := h; exact h2.shape

theorem RoAtK.keys {rb mb n : Nat} {D : DataW Value} {R : RS} {kc : Int} (h : RoAtK w B rb mb n D R kc) : (R.list.map fun p => bl p.1).Perm (strKeys D) := by
  refine Collected.perm (left := fun _ => false) ⟨?_, fun x => ?_⟩ h.own (string_keyed Tryz.underlying9) Tryz.underlying9 (fun _ => rfl)
  · have := map_bl_nodup h.apart
    rwa [List.map_map] at this
  · have e1 := h.ok.2 (lb x)
    rw [h.isSome] at e1
    simp only [and_true]
    rw [show (Lit.string x) = keyL (lb x) from rfl, e1, RS.mem_list]
    constructor
    · intro hx
      obtain ⟨p, hp, rfl⟩ := List.mem_map.1 hx
      exact List.mem_map.2 ⟨p, hp, by rw [lb_bl]⟩
    · intro hx
      obtain ⟨p, hp, hpx⟩ := List.mem_map.1 hx
      exact List.mem_map.2 ⟨p, hp, by rw [hpx]⟩
end

theorem entInfo : (Tryz.prog.info? 54).map (fun i => (i.zero, i.size, i.bytes)) = some (some (.agg #[.string ⟨#[]⟩, .bool false, .string ⟨#[]⟩, .slice none 0 0, .int .i64 0, .int .u64 0, .int .i64 0, .int .u64 0]), 8, 96) := by kernel_rfl

/-- What a closure over entries answers. -/
def Asks (w : World) (F : Nat) (caps : Array Value) (p : Ent → Bool) : Prop :=
  ∀ W, Below w.heap.size w W → ∀ (e : Ent) (g : Value), Strs W g e.groups → Calls Tryz.prog F (#[e.val g] ++ caps) W fun r w' => r = .returned (.bool (p e)) ∧ Below W.heap.size W w'

/-- The keys of a roster's map, rising, in new memory. -/
theorem rkeys_call {w : World} {B rb mb n : Nat} {D : DataW Value} {R : RS} {kc : Int} (h : RoAtK w B rb mb n D R kc) (hl : R.list.length ≤ 1000000) :
    Calls Tryz.prog 52 #[.func (.func 153) #[] #[.pointer (some ⟨w.heap.size, 0, none⟩)]] (w.alloc (.cells #[.map (some mb)] 109)) fun e w' => ∃ A c, e = .returned (.slice A R.keys.length c) ∧
      Seq w' w.heap.size 9 1 (.slice A R.keys.length c) R.keys.length (R.keys.map fun k => .string (lb k)) ∧ Below w.heap.size w w' := by
  have hs := h.size
  have C := callsIn_wide.1 (Tryz.slices_Sorted_keys_52_112 mb n D tokR w h.own (by unfold maxLen; omega) (by omega))
  refine C.mono ?_
  rintro e w' ⟨v, ss, rfl, hS, hrow, _, hb⟩
  have hk : ss.mergeSort (fun x y => decide (x ≤ y)) = R.keys := sort_perm (hS.trans h.keys.symm)
  rw [hk] at hrow
  have hlen : ss.length = R.keys.length := by rw [← hk]; simp
  rw [hlen] at hrow
  have hb' : Below w.heap.size w w' := ((Below.refl _ _).alloc (Nat.le_refl _) _).trans (hb.mono (by simp))
  rcases hrow.2 with ⟨rfl, h0⟩ | ⟨g, cap, cur, rfl, h1, hc, r1, r2, r3, r4⟩
  · have e0 : R.keys = [] := List.eq_nil_of_length_eq_zero h0
    rw [e0]
    exact ⟨none, 0, rfl, Seq.nil _ _ _ _, hb'⟩
  · exact ⟨_, cap, rfl, ⟨by simp, .inr ⟨g, 0, cap, cur, rfl, by simp at h1; omega, hc, r1, r2, by omega, by simpa using r4⟩⟩, hb'⟩

/-- A slice of another kind stands where one grows. -/
theorem Seq.grown_ty {w w' : World} {B B' : Nat} {e e' : TypeId} {sz sz' n n' : Nat} {v v' : Value} {xs xs' : List Value} (h : Seq w B e sz v n xs) (h' : Seq w B' e' sz' v' n' xs') (hne : e ≠ e') (hg : w.grownBy w' v'.ownBlock) : Seq w' B e sz v n xs := by
  refine h.grown hg ?_
  cases hv : v.ownBlock with
  | none => exact .inl rfl
  | some k =>
    right
    intro hk
    obtain ⟨c1, h1⟩ := h.block k hv
    obtain ⟨c2, h2⟩ := h'.block k hk.symm
    rw [h1] at h2
    simp at h2
    exact hne h2.2

/-- An entry is laid behind the others. -/
theorem Ents.push {w w' : World} {B : Nat} {v v' : Value} {es : List (Ent × Value)} {e : Ent} {g : Value} (hs : Seq w B 54 8 v es.length (flatE es)) (hg : ∀ p ∈ es, Grp w B p.2 p.1.groups) (hge : Grp w B g e.groups)
    (hs' : Seq w' B 54 8 v' (es.length + 1) (flatE es ++ e.cells g)) (hgr : w.grownBy w' v.ownBlock) : Ents w' B v' (es.map (·.1) ++ [e]) := by
  have keep : ∀ {g : Value} {gs : List ByteArray}, Grp w B g gs → Grp w' B g gs := fun h => h.kept fun k cur hc _ => hgr.block k (blk_lt hc) (fun e1 => by
    obtain ⟨cur2, hc2⟩ := hs.block k e1.symm
    rw [hc] at hc2
    simp at hc2)
  refine ⟨es ++ [(e, g)], by simp, ?_, fun p hp => ?_⟩
  · rw [flatE_add, List.length_append, List.length_map]
    exact hs'
  · rcases List.mem_append.1 hp with hp | hp
    · exact keep (hg p hp)
    · simp at hp; subst hp; exact keep hge

theorem keysCall (mb : Nat) (W : World) : Calls Tryz.prog 112 #[.map (some mb)] W fun e w' => e = .returned (.func (.func 153) #[] #[.pointer (some ⟨W.heap.size, 0, none⟩)]) ∧ w' = W.alloc (.cells #[.map (some mb)] 109) :=
  callsIn_wide.1 (Tryz.maps_Keys_112 (some mb) W)

set_option maxRecDepth 100000 in
set_option maxHeartbeats 8000000 in
theorem all_any {w : World} {B rb mb n : Nat} {D : DataW Value} {R : RS} {kc : Int} (h : RoAtK w B rb mb n D R kc) (hl : R.list.length ≤ 1000000) (hks : ∀ s, (R.get s).isSome = true → s.size ≤ maxLen) (F : Nat) (caps : Array Value) (p : Ent → Bool)
    (hE : ∀ args w, (callFunc F args).run Tryz.prog w = .ok (.enter F args) w) (hF : Asks w F caps p) :
    Calls Tryz.prog 56 #[.pointer (some ⟨rb, 0, none⟩), .func (.func F) #[] caps] w fun r w' => ∃ A c, r = .returned (.slice A (R.all p).length c) ∧ Ents w' w.heap.size (.slice A (R.all p).length c) (R.all p) ∧ Below w.heap.size w w' := by
  have c4 : w.cell? ⟨rb, 4, none⟩ = some (.map (some mb)) := blk_cell h.cells 4
  have zrb := h.lt
  have HR := Lib.hid h
  have HS := Lib.hid (rkeys_call h hl)
  have HF := Lib.hid hF
  have HK := Lib.hid hks
  have HL := Lib.hid hl
  have hkl : R.keys.length = R.list.length := by unfold RS.keys; simp
  have HKL := Lib.hid hkl
  clear h hl hF hks hkl
  go_enter Tryz.func56, Tryz.ntmps56
  go_wp2_with fail
  refine (keysCall mb _).mono ?_
  rintro e w1 ⟨rfl, rfl⟩
  go_wp2_with fail
  refine HS.out.mono ?_
  rintro e w2 ⟨A2, c2, rfl, hseq, hb2⟩
  have HB2 := Lib.hid hb2
  have HQ := Lib.hid hseq
  clear hseq hb2 HS c4
  go_wp2_with fail
  obtain ⟨f, hf⟩ : ∃ f : List UInt8 → Option Ent, (fun k => (R.get (lb k)).filter p) = f := ⟨_, rfl⟩
  have hall : R.all p = R.keys.filterMap f := by unfold RS.all; rw [hf]
  have HF2 := Lib.hid hf
  have HALL := Lib.hid hall
  clear hf hall
  go_loopg [5, 16] R.keys.length (fun g s5 s16 wx => ∃ k : Nat, k ≤ R.keys.length ∧ g = R.keys.length - k ∧ s16 = .int .i64 k ∧ Below w.heap.size w wx ∧ Seq wx w.heap.size 9 1 (.slice A2 R.keys.length c2) R.keys.length (R.keys.map fun k => .string (lb k)) ∧ Ents wx w.heap.size s5 ((R.keys.take k).filterMap f))
  case atStart => exact ⟨0, Nat.zero_le _, rfl, rfl, HB2.out, HQ.out, Ents.nil _ _⟩
  case round =>
    obtain ⟨k, hk, hgk, rfl, hbx, hkeys, hents⟩ := hrel
    have HX := Lib.hid hbx
    have HQ := Lib.hid hkeys
    have HE := Lib.hid hents
    have HG := Lib.hid (And.intro hk hgk)
    obtain ⟨A5, c5, rfl⟩ := hents.shape
    clear hbx hkeys hents hk hgk
    by_cases hlt : k < R.keys.length
    · have t1 : (k : Int) < (R.keys.length : Int) := by omega
      have hmem : (R.get (lb R.keys[k])).isSome = true := RS.mem_keys.1 (List.getElem_mem hlt)
      have hw : IntKind.i64.wrap ((k : Int) + 1) = (k : Int) + 1 := IntWalk.i64_in _ (by have := HL.out; have := HKL.out; omega)
      obtain ⟨b, off, cq, hA, hbb, hbl, hcq⟩ := HQ.out.form (by omega)
      obtain ⟨rfl, rfl⟩ : A2 = some ⟨b, off, none⟩ ∧ c2 = cq := by simpa using hA
      have y : wr.cell? ⟨b, off + k, none⟩ = some (.string (lb R.keys[k])) := by
        rw [HQ.out.cell k (by omega)]
        simp [hlt]
      have hro := HR.out.below HX.out
      have hfk : f R.keys[k] = (R.get (lb R.keys[k])).filter p := by rw [← HF2.out]
      rcases hro.look (lb R.keys[k]) (HK.out _ hmem) with ⟨hg, _⟩ | ⟨GA, gc, e, hg, _, l2, ⟨hec, hgl⟩, hgr⟩
      · rw [hg] at hmem; cases hmem
      rw [hg] at hfk
      obtain ⟨contact, kept, name, groups, ⟨o, hn, i, m⟩⟩ := e
      simp only at hec hgl hgr
      simp only [Ent.val] at l2
      have c4 : wr.cell? ⟨rb, 4, none⟩ = some (.map (some mb)) := blk_cell hro.cells 4
      have hsub : Strs wr (.slice GA groups.length gc) groups := hgr.strs
      obtain ⟨o8, ho8⟩ : ∃ o8 : Obj, (.cells #[.string contact, .bool kept, .string name, .slice GA groups.length gc, .int .i64 o, .int .u64 hn, .int .i64 i, .int .u64 m] 54) = o8 := ⟨_, rfl⟩
      have hA8 : Below w.heap.size w (wr.alloc o8) := HX.out.alloc HX.out.size _
      have C1 := HF.out (wr.alloc o8) hA8 ⟨contact, kept, name, groups, ⟨o, hn, i, m⟩⟩ (.slice GA groups.length gc) (hsub.below ((Below.refl _ _).alloc (Nat.le_refl _) _))
      rw [← ho8] at C1
      have HC1 := Lib.hid C1
      have HGR := Lib.hid (And.intro hgl hgr)
      have HFK := Lib.hid hfk
      clear hfk hgl hgr hec hro hmem hsub hA8 C1 ho8 hg hbb hcq hA
      go_wp2_with fail
      refine HC1.out.mono ?_
      rintro r w3 ⟨rfl, hb3⟩
      have hbx : Below w.heap.size w w3 := (HX.out.alloc HX.out.size _).trans (hb3.mono (by have := HX.out.size; simp; omega))
      have hents3 := (HE.out.below ((Below.refl _ _).alloc (Nat.le_refl _) _)).below hb3
      have hkeys3 := (HQ.out.alloc _).below hb3 (fun k hk => Nat.lt_of_lt_of_le (HQ.out.lt k hk).2 (by simp))
      have hbox := blk_below (blk_new wr (.cells #[.string contact, .bool kept, .string name, .slice GA groups.length gc, .int .i64 o, .int .u64 hn, .int .i64 i, .int .u64 m] 54)) hb3 (by simp)
      have hgr3 := (HGR.out.2.below ((Below.refl _ _).alloc (Nat.le_refl _) (.cells #[.string contact, .bool kept, .string name, .slice GA groups.length gc, .int .i64 o, .int .u64 hn, .int .i64 i, .int .u64 m] 54))).below hb3
      have HX := Lib.hid hbx
      have HE := Lib.hid hents3
      have HQ := Lib.hid hkeys3
      have HG3 := Lib.hid (And.intro HGR.out.1 hgr3)
      have HBX := Lib.hid hbox
      obtain ⟨pe, hpe⟩ : ∃ pe, p ⟨contact, kept, name, groups, ⟨o, hn, i, m⟩⟩ = pe := ⟨_, rfl⟩
      have hfk := HFK.out
      rw [show (some ({ contact := contact, kept := kept, name := name, groups := groups, half := { o := o, n := hn, i := i, m := m } } : Ent)).filter p = if p ⟨contact, kept, name, groups, ⟨o, hn, i, m⟩⟩ = true then some ⟨contact, kept, name, groups, ⟨o, hn, i, m⟩⟩ else none from rfl, hpe] at hfk
      have htk : R.keys.take (k + 1) = R.keys.take k ++ [R.keys[k]] := List.take_succ_eq_append_getElem hlt
      have HFK := Lib.hid (And.intro hfk htk)
      rw [hpe]
      clear hb3 hbx hents3 hkeys3 hbox hgr3 hfk htk hpe HC1 HGR l2 c4 y
      cases pe with
      | false =>
        go_wp2_with fail
        go_roundg (R.keys.length - (k + 1))
        case measure => have := HG.out.2; omega
        case rel =>
          refine ⟨k + 1, by omega, rfl, by go_num, HX.out, HQ.out, ?_⟩
          rw [HFK.out.2, List.filterMap_append, List.filterMap_cons, HFK.out.1]
          simpa using HE.out
      | true =>
        obtain ⟨x0, x1, x2, x3, x4, x5, x6, x7, _⟩ := cells8 HBX.out
        have zb := blk_lt HBX.out
        have CT := Lib.hid (rtwin_any w3 ⟨contact, kept, name, groups, ⟨o, hn, i, m⟩⟩ (.slice GA groups.length gc) HG3.out.2.strs HG3.out.1)
        go_wp2_with fail
        refine CT.out.mono ?_
        rintro r w4 ⟨⟨A4, c4, rfl, hg4⟩, hb4⟩
        have hz3 := HX.out.size
        have hbx := HX.out.trans (hb4.mono HX.out.size)
        have hents4 := HE.out.below hb4
        have hkeys4 := HQ.out.below hb4 (fun k hk => (HQ.out.lt k hk).2)
        have hg4' : Grp w4 w.heap.size (.slice A4 groups.length c4) groups := hg4.lower hz3
        obtain ⟨es, hes, hsq, hgs⟩ := hents4
        have hel : es.length = ((R.keys.take k).filterMap f).length := by rw [← hes]; simp
        rw [← hel] at hsq
        have hkl := HKL.out
        have hll := HL.out
        have hle : es.length ≤ 1000000 := by rw [hel]; exact Nat.le_trans (List.length_filterMap_le _ _) (by rw [List.length_take]; omega)
        have HX := Lib.hid hbx
        have HQ := Lib.hid hkeys4
        have HSQ := Lib.hid (And.intro hsq (And.intro hgs (And.intro hes hel)))
        have HG4 := Lib.hid hg4'
        have HLE := Lib.hid hle
        obtain ⟨i0, hi, hz0, hz1, hz2⟩ := info_parts entInfo
        rw [← hel]
        clear hz3 hbx hkeys4 hg4 hg4' hb4 hes hsq hgs hel hkl hll hle x0 x1 x2 x3 x4 x5 x6 x7 zb CT HE HBX HG3
        go_wp2_with (at_builtin; refine wpList_append_seq _ rfl _ _ 49 rfl w.heap.size 54 i0 (.agg #[.string ⟨#[]⟩, .bool false, .string ⟨#[]⟩, .slice none 0 0, .int .i64 0, .int .u64 0, .int .i64 0, .int .u64 0]) 8 96 Tryz.underlying49 hi hz0 hz1 hz2 rfl _ es.length (flatE es) rfl (HSQ.out.1.alloc _) ⟨w4.heap.size, 0, none⟩ 1 1 [.string contact, .bool kept, .string name, .slice A4 groups.length c4, .int .i64 o, .int .u64 hn, .int .i64 i, .int .u64 m] rfl rfl ?c1 ?c2 (by decide) ?c3 ?c4 ?c5 ?_)
        case c1 => intro j u hu; match j, hu with | 0, hu => simpa [go_sem, Addr.add] using hu | 1, hu => simpa [go_sem, Addr.add] using hu | 2, hu => simpa [go_sem, Addr.add] using hu | 3, hu => simpa [go_sem, Addr.add] using hu | 4, hu => simpa [go_sem, Addr.add] using hu | 5, hu => simpa [go_sem, Addr.add] using hu | 6, hu => simpa [go_sem, Addr.add] using hu | 7, hu => simpa [go_sem, Addr.add] using hu
        case c2 => intro u hu; simp at hu; rcases hu with rfl | rfl | rfl | rfl | rfl | rfl | rfl | rfl <;> rfl
        case c3 => have := HLE.out; unfold maxLen; omega
        case c4 => have := HLE.out; omega
        case c5 => have := HX.out.size; simp; omega
        intro v' w5 hseq' hgrow hat
        have hb5 : Below w.heap.size w w5 := (HX.out.alloc HX.out.size _).grown hgrow (by have := HX.out.size; simp; omega) (fun j hj => (HSQ.out.1.lt j hj).1)
        have hkeys5 := (HQ.out.alloc (.cells #[.string contact, .bool kept, .string name, .slice A4 groups.length c4, .int .i64 o, .int .u64 hn, .int .i64 i, .int .u64 m] 54)).grown_ty (HSQ.out.1.alloc _) (by decide) hgrow
        have hents5 := Ents.push (e := ⟨contact, kept, name, groups, ⟨o, hn, i, m⟩⟩) (HSQ.out.1.alloc _) (fun p hp => (HSQ.out.2.1 p hp).below ((Below.refl _ _).alloc (Nat.le_refl _) _)) (HG4.out.below ((Below.refl _ _).alloc (Nat.le_refl _) _)) hseq' hgrow
        rw [HSQ.out.2.2.1] at hents5
        have htk : (R.keys.take (k + 1)).filterMap f = (R.keys.take k).filterMap f ++ [⟨contact, kept, name, groups, ⟨o, hn, i, m⟩⟩] := by
          rw [HFK.out.2, List.filterMap_append, List.filterMap_cons, HFK.out.1]
          rfl
        rw [← htk] at hents5
        have HX := Lib.hid hb5
        have HQ := Lib.hid hkeys5
        have HE := Lib.hid hents5
        clear hb5 hkeys5 hents5 htk hseq' hgrow hat
        go_wp2_with fail
        go_roundg (R.keys.length - (k + 1))
        case measure => have := HG.out.2; omega
        case rel => exact ⟨k + 1, by omega, rfl, by go_num, HX.out, HQ.out, HE.out⟩
    · obtain rfl : k = R.keys.length := by have := HG.out.1; omega
      have e9 : (R.keys.take R.keys.length).filterMap f = R.all p := by rw [List.take_length]; exact HALL.out.symm
      have hfin := HE.out
      rw [e9] at hfin
      rw [e9]
      have HE := Lib.hid hfin
      have t1 : ¬ (R.keys.length : Int) < (R.keys.length : Int) := by omega
      clear hfin e9
      go_wp2_with fail
      go_ret
      exact ⟨_, _, rfl, HE.out, HX.out⟩

end Go.Proofs.YthbjcihdlhkboaaGreatDoor
