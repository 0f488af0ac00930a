/- RosterBounds' walk: for all bounds and all calls it answers true. -/
import Derived.Test.YthbjcihdlhkboaaGreatDoorRk1
import Derived.Deep.LoopGhost
import Derived.Deep.DeepCutAuto
import Derived.Deep.Light
namespace Go.Proofs.YthbjcihdlhkboaaGreatDoor
set_option linter.unusedSimpArgs false
set_option linter.unusedVariables false
open Go.RowKit Go.Maps Go.Shelf Go.Lib

theorem remk (x k : Int) (h : 0 < k) : 0 ≤ (x.tmod k + k).tmod k ∧ (x.tmod k + k).tmod k < k ∧ -k < x.tmod k ∧ x.tmod k < k := by
  have h1 := Int.tmod_lt_of_pos x h
  have h2 : -k < x.tmod k := by have := Int.lt_tmod_of_pos x h; omega
  have h3 : (x.tmod k + k).tmod k = (x.tmod k + k) % k := Int.tmod_eq_emod_of_nonneg (by omega)
  rw [h3]
  exact ⟨Int.emod_nonneg _ (by omega), Int.emod_lt_of_pos _ h, h2, h1⟩

/-- What a round's look tells: the items are the same just where told so. -/
abbrev opBox (o : OpD) : Obj := .cells o.cells 47

theorem cells6 {w : World} {b : Nat} {x0 x1 x2 x3 x4 x5 : Value} {T : TypeId} (h : w.heap[b]? = some (.cells #[x0, x1, x2, x3, x4, x5] T)) : w.cell? ⟨b, 0, none⟩ = some x0 ∧ w.cell? ⟨b, 1, none⟩ = some x1 ∧ w.cell? ⟨b, 2, none⟩ = some x2 ∧ w.cell? ⟨b, 3, none⟩ = some x3 ∧ w.cell? ⟨b, 4, none⟩ = some x4 ∧ w.cell? ⟨b, 5, none⟩ = some x5 :=
  ⟨blk_cell h 0, blk_cell h 1, blk_cell h 2, blk_cell h 3, blk_cell h 4, blk_cell h 5⟩

theorem Ents.at {w : World} {B c : Nat} {A : Option Addr} {l : List Ent} (h : Ents w B (.slice A l.length c) l) {i : Nat} (hi : i < l.length) :
    ∃ b off e g, A = some ⟨b, off, none⟩ ∧ l[i] = e ∧ Strs w g e.groups ∧ ∀ j, j < 8 → w.cell? ⟨b, off + i * 8 + j, none⟩ = (e.cells g)[j]? := by
  obtain ⟨es, e1, hs, hg⟩ := h
  have hel : i < es.length := by have := congrArg List.length e1; simp at this; omega
  obtain ⟨b, off, rfl⟩ : ∃ b off, A = some ⟨b, off, none⟩ := by
    rcases hs.2 with ⟨hv, h0⟩ | ⟨g', off', cap', cur, hv, _⟩
    · omega
    · cases hv; exact ⟨_, _, rfl⟩
  have hlen : es.length = l.length := by rw [← e1]; simp
  refine ⟨b, off, es[i].1, es[i].2, rfl, by subst e1; simp, (hg _ (List.getElem_mem hel)).strs, fun j hj => ?_⟩
  rw [Nat.add_assoc, hs.cell _ (by omega)]
  exact flatE_get (List.getElem?_eq_getElem hel) hj

theorem cell_lt' {w : World} {a : Addr} {v : Value} (h : w.cell? a = some v) : a.block < w.heap.size := by
  simp only [World.cell?] at h
  rcases Nat.lt_or_ge a.block w.heap.size with h1 | h1
  · exact h1
  · rw [Array.getElem?_eq_none h1] at h; simp at h
theorem same_start (l1 l2 : List Ent) : ((l2.length : Int) == (l1.length : Int)) = decide (l2.length = l1.length ∧ l2.take 0 = l1.take 0) := by
  rw [Bool.eq_iff_iff]; simp; omega
theorem same_step {l1 l2 : List Ent} {j : Nat} (h1 : j < l1.length) (h2 : j < l2.length) (h : l2.length = l1.length ∧ l2.take j = l1.take j) {e1 e2 : Ent} (x1 : l1[j] = e1) (x2 : l2[j] = e2) :
    decide (e2 = e1) = decide (l2.length = l1.length ∧ l2.take (j + 1) = l1.take (j + 1)) := by
  subst x1 x2
  rw [Bool.eq_iff_iff]
  simp only [decide_eq_true_eq]
  rw [List.take_succ_eq_append_getElem h1, List.take_succ_eq_append_getElem h2, h.2]
  constructor
  · intro e; exact ⟨h.1, by rw [e]⟩
  · rintro ⟨_, t⟩
    have := (List.append_inj' t rfl).2
    simpa using this
theorem same_end {l1 l2 : List Ent} {j : Nat} {q : Bool} (hq : q = decide (l2.length = l1.length ∧ l2.take j = l1.take j)) (h : j = l2.length ∨ q = false) : q = decide (l2 = l1) := by
  by_cases e : l2 = l1
  · subst e
    subst hq
    simp
  · rw [decide_eq_false e]
    rcases h with rfl | h
    · rw [hq, decide_eq_false]
      rintro ⟨a, b⟩
      rw [List.take_length] at b
      exact e (by rw [b, a, List.take_length])
    · exact h

/-- A component of a tuple. -/
def comp (j : Nat) : Value → Value
  | .tuple vs => vs.getD j undef
  | _ => undef
theorem comp0 (x y : Value) : comp 0 (.tuple #[x, y]) = x := rfl
theorem comp1 (x y : Value) : comp 1 (.tuple #[x, y]) = y := rfl

set_option maxRecDepth 100000 in
set_option maxHeartbeats 16000000 in
theorem bounds_any (w : World) (hT : Tabs w) (items asks : Int) (A : Option Addr) (L cap : Nat) (E : Nat → OpD) (hops : OpsAt w A L E) (hL : L ≤ 9223372036854775807) :
    Calls Tryz.prog 4 #[.int .i64 items, .int .i64 asks, .slice A L cap] w fun e w' => e = .returned (.bool true) ∧ Below w.heap.size w w' := by
  obtain ⟨i1, i2, i3, i4⟩ := remk items 5 (by decide)
  obtain ⟨j1, j2, j3, j4⟩ := remk asks 4 (by decide)
  have hw1 : IntKind.i64.wrap (items.tmod 5 + 5) = items.tmod 5 + 5 := IntWalk.i64_in _ (by omega)
  have hw2 : IntKind.i64.wrap (asks.tmod 4 + 4) = asks.tmod 4 + 4 := IntWalk.i64_in _ (by omega)
  obtain ⟨nn, hnn⟩ : ∃ nn, (items.tmod 5 + 5).tmod 5 = nn := ⟨_, rfl⟩
  obtain ⟨mm, hmm⟩ : ∃ mm, (asks.tmod 4 + 4).tmod 4 = mm := ⟨_, rfl⟩
  rw [hnn] at i1 i2
  rw [hmm] at j1 j2
  have CN := fun W => rnew_any nn mm i1 (by omega) j1 (by omega) W
  have HCN := Lib.hid CN
  have HT := Lib.hid hT
  have HO := Lib.hid hops
  have HN := Lib.hid (And.intro i1 (And.intro i2 (And.intro j1 j2)))
  clear CN hT hops i3 i4 j3 j4
  go_enter Tryz.func4, Tryz.ntmps4
  go_wp2_with fail
  clear hw1 hw2 hnn hmm i1 i2 j1 j2
  refine (HCN.out _).mono ?_
  rintro e w1 ⟨rfl, hb1, hr1⟩
  have HB1 := Lib.hid (And.intro hb1 hr1)
  clear hb1 hr1 HCN
  go_wp2_with fail
  refine (wakes16_any _ (HT.out.later HB1.out.1)).mono ?_
  rintro e w2 ⟨rfl, hb2⟩
  have hm0 : BMem w w2 (w.heap.size + 1) w.heap.size (RS.new nn mm) 0 := BMem.call ⟨HB1.out.1, ⟨_, HB1.out.2⟩, RInv.new HN.out.1 HN.out.2.2.1, by simp, by simp, by simp⟩ hb2
  have HM0 := Lib.hid hm0
  clear hm0 hb2 HB1
  go_wp2_with fail
  obtain ⟨rb, hrb⟩ : ∃ rb, w.heap.size + 1 = rb := ⟨_, rfl⟩
  obtain ⟨mb, hmb⟩ : ∃ mb, w.heap.size = mb := ⟨_, rfl⟩
  have HM0 : Hid (BMem w w2 rb mb (RS.new nn mm) 0) := Lib.hid (by rw [← hrb, ← hmb]; exact HM0.out)
  rw [hrb]
  clear hrb hmb
  go_loopg [11] (min L 150) (fun g s11 wx => ∃ (k : Nat) (R : RS), k ≤ min L 150 ∧ g = min L 150 - k ∧ s11 = .int .i64 k ∧ BMem w wx rb mb R k ∧ R.items = nn ∧ R.asks = mm)
  case atStart => exact ⟨0, RS.new nn mm, Nat.zero_le _, rfl, rfl, HM0.out, rfl, rfl⟩
  case round =>
    obtain ⟨k, R, hk, hgk, rfl, hm, hRi, hRa⟩ := hrel
    have HM := Lib.hid hm
    have HK := Lib.hid (And.intro hk (And.intro hgk (And.intro hRi hRa)))
    clear hm hk hgk hRi hRa
    by_cases hlt : k < min L 150
    · have t1 : (k : Int) < (L : Int) := by omega
      have t2 : (k : Int) < 150 := by omega
      have t0 : (0 : Int) ≤ (k : Int) := by omega
      have hw : IntKind.i64.wrap ((k : Int) + 1) = (k : Int) + 1 := IntWalk.i64_in _ (by omega)
      obtain ⟨ab, ao, rfl, hab, hops⟩ := HO.out.at_ (by omega)
      obtain ⟨hcl, hgs, hcs, hns, hn0, hn1⟩ := hops k (by omega)
      have HOP := Lib.hid (And.intro hgs (And.intro hcs (And.intro hns (And.intro hn0 hn1))))
      obtain ⟨o, ho⟩ : ∃ o, E k = o := ⟨_, rfl⟩
      rw [ho] at hcl HOP
      have hb := HM.out.below
      have c0 : wr.cell? ⟨ab, ao + k * 6, none⟩ = some (.int .i64 o.act) := (hb.cell hab).trans (hcl 0 (by omega))
      have c1 : wr.cell? ⟨ab, ao + k * 6 + 1, none⟩ = some (.string o.contact) := (hb.cell hab).trans (hcl 1 (by omega))
      have c2 : wr.cell? ⟨ab, ao + k * 6 + 2, none⟩ = some (.string o.name) := (hb.cell hab).trans (hcl 2 (by omega))
      obtain ⟨GA, gc, hgv⟩ : ∃ A c, o.gv = .slice A o.groups.length c := let ⟨⟨A, cap, h, _⟩, _⟩ := HOP.out.1; ⟨A, cap, h⟩
      have c3 : wr.cell? ⟨ab, ao + k * 6 + 3, none⟩ = some (.slice GA o.groups.length gc) := by rw [← hgv]; exact (hb.cell hab).trans (hcl 3 (by omega))
      have c4 : wr.cell? ⟨ab, ao + k * 6 + 4, none⟩ = some (.int .i64 o.kind) := (hb.cell hab).trans (hcl 4 (by omega))
      have c5 : wr.cell? ⟨ab, ao + k * 6 + 5, none⟩ = some (.int .u64 o.n) := (hb.cell hab).trans (hcl 5 (by omega))
      have HGV := Lib.hid hgv
      clear hcl hgs hcs hns hn0 hn1 hops ho hb hgv
      go_upto_region 9 with fail
      have hbo := blk_new wr (.cells #[.int .i64 o.act, .string o.contact, .string o.name, .slice GA o.groups.length gc, .int .i64 o.kind, .int .u64 o.n] 47)
      have hm1 := HM.out.call ((Below.refl _ _).alloc (Nat.le_refl _) (.cells #[.int .i64 o.act, .string o.contact, .string o.name, .slice GA o.groups.length gc, .int .i64 o.kind, .int .u64 o.n] 47))
      have hrb : rb < wr.heap.size := let ⟨_, r⟩ := HM.out.ro; r.lt.1
      obtain ⟨W1, hW1⟩ : ∃ W1, wr.alloc (.cells #[.int .i64 o.act, .string o.contact, .string o.name, .slice GA o.groups.length gc, .int .i64 o.kind, .int .u64 o.n] 47) = W1 := ⟨_, rfl⟩
      rw [hW1] at hbo hm1 ⊢
      generalize wr.heap.size = bo at *
      have HM1 := Lib.hid (And.intro hm1 hbo)
      have hlen : R.list.length ≤ 1000000 := by have := hm1.len; omega
      clear hbo hm1 hW1 c0 c1 c2 c3 c4 c5 hrb HM
      go_wp2_with fail
      refine (rver_any (Classical.choose_spec HM1.out.1.ro)).mono ?_
      rintro e w3 ⟨rfl, hb3⟩
      have HM3 := Lib.hid (And.intro (HM1.out.1.call hb3) (blk_below HM1.out.2 hb3 (blk_lt HM1.out.2)))
      clear hb3 HM1
      go_wp2_with fail
      refine (items_any (Classical.choose_spec HM3.out.1.ro) hlen HM3.out.1.keys).mono ?_
      rintro e w4 ⟨WA, nca, rfl, hE4, hb4⟩
      have HM4 := Lib.hid (And.intro (HM3.out.1.call hb4) (And.intro (blk_below HM3.out.2 hb4 (blk_lt HM3.out.2)) hE4))
      clear hb4 HM3 hE4
      obtain ⟨B4, hB4⟩ : ∃ B4, w3.heap.size = B4 := ⟨_, rfl⟩
      rw [hB4] at HM4
      clear hB4
      go_upto_region 12 with fail
      obtain ⟨b0, b1, b2, b3, b4, b5⟩ := cells6 HM4.out.2.1
      have zbo := blk_lt HM4.out.2.1
      have hopn := HOP.out
      go_upto_block 2 with fail
      go_cut [15] (fun s15 wx => ∃ (R' : RS) (d : Bool), s15 = .bool d ∧ Told R R' d ∧ BMem w wx rb mb R' (k + 1) ∧ Ents wx B4 (.slice WA R.kepts.length nca) R.kepts)
      case first =>
        obtain ⟨hgs, hcs, hns, hn0, hn1⟩ := hopn
        have hinv := HM4.out.1.inv
        have hst : Strs w (.slice GA o.groups.length gc) o.groups := by rw [← HGV.out]; exact hgs
        have nbo : ¬ (bo = rb ∨ bo = mb) := by
          obtain ⟨D, r⟩ := HM4.out.1.ro
          have hbx := HM4.out.2.1
          rintro (e | e)
          · subst e; rw [r.cells] at hbx; simp at hbx
          · obtain ⟨es, clock, hb2, _⟩ := r.own
            subst e; rw [hb2] at hbx; cases hbx
        by_cases a1 : o.act = 1
        · have q1 : (o.act == 1) = true := by simp [a1]
          have HI := Lib.hid (And.intro hinv (And.intro hcs (And.intro hns hst)))
          clear a1 hinv hst hgs hcs hns hn0 hn1
          go_upto_region 14 with fail
          refine Reg.wp_region_puts (A := [[], [], [1], [2, 1], [], [4], [5, 4, 3, 2, 1], [], [7], [8, 7, 6, 5, 4, 3, 2, 1], [0, 3, 2, 1, 6, 5, 4, 9, 8, 7], [10, 0, 3, 2, 1, 6, 5, 4, 9, 8, 7], [11, 10, 0, 3, 2, 1, 6, 5, 4, 9, 8, 7], [11, 10, 0, 3, 2, 1, 6, 5, 4, 9, 8, 7], [], [14, 12, 11, 10, 0, 3, 2, 1, 6, 5, 4, 9, 8, 7], [13, 11, 10, 0, 3, 2, 1, 6, 5, 4, 9, 8, 7, 15, 14, 12]]) (effs := [3, 6, 9, 10, 14, 15]) (N := 169)
            (val := fun i r => match i with | 0 => .pointer (some ⟨rb, 0, none⟩) | 1 => .pointer (some ⟨bo, 1, none⟩) | 2 => .string o.contact | 4 => .pointer (some ⟨bo, 2, none⟩) | 5 => .string o.name | 7 => .pointer (some ⟨bo, 3, none⟩) | 8 => .slice GA o.groups.length gc | 11 => (r 10) | 12 => (comp 0 (r 10)) | 13 => (comp 1 (r 10)) | 16 => (comp 1 (r 10)) | _ => undef)
            (Stage := fun rs wx => PutSt w w4 wx rb mb k R (cutTo o.contact 80) (cutTo o.name 80) (cutAll o.groups 12 80) (R.putAll (cutTo o.contact 80) (cutTo o.name 80) (cutAll o.groups 12 80)) rs)
            (fun rs => [(some 68, .pointer (some ⟨rb, 0, none⟩)), (some 69, .pointer (some ⟨bo, 1, none⟩)), (some 70, .string o.contact), (some 71, (rs 3).getD undef), (some 72, .pointer (some ⟨bo, 2, none⟩)), (some 73, .string o.name), (some 74, (rs 6).getD undef), (some 75, .pointer (some ⟨bo, 3, none⟩)), (some 76, .slice GA o.groups.length gc), (some 77, (rs 9).getD undef), (some 78, (rs 10).getD undef), (some 67, ((rs 10).getD undef)), (some 79, (comp 0 ((rs 10).getD undef))), (some 80, (comp 1 ((rs 10).getD undef))), (some 16, (rs 14).getD undef), (none, (rs 15).getD undef), (some 17, (comp 1 ((rs 10).getD undef)))])
            (by kernel_rfl) (by kernel_rfl) rfl (fun _ => rfl) ?h0 ?hob ?hend
          case hob =>
            intro i hi
            match i, hi with
            | 0, _ => exact Reg.Ob.pure rfl rfl rfl (fun rs => .pointer (some ⟨rb, 0, none⟩)) (fun _ => rfl) (fun rs wx a hs hd hl hk => by
                have e9 : (a.tmps[9]?).getD undef = .pointer (some ⟨rb, 0, none⟩) := hk 9 (by decide)
                go_simp)
            | 1, _ => exact Reg.Ob.pure rfl rfl rfl (fun rs => .pointer (some ⟨bo, 1, none⟩)) (fun _ => rfl) (fun rs wx a hs hd hl hk => by
                have e12 : (a.tmps[12]?).getD undef = .pointer (some ⟨bo, 0, none⟩) := hk 12 (by decide)
                go_simp)
            | 2, _ => exact Reg.Ob.pure rfl rfl rfl (fun rs => .string o.contact) (fun _ => rfl) (fun rs wx a hs hd hl hk => by
                have e69 : (a.tmps[69]?).getD undef = .pointer (some ⟨bo, 1, none⟩) := hk 69 (by decide)
                have c : wx.cell? ⟨bo, 1, none⟩ = some (.string o.contact) := (hs.upd.cell zbo nbo).trans b1
                go_simp)
            | 3, _ =>
              refine Reg.Ob.eff rfl rfl rfl ?_
              intro rs wx a hs hd hn hl hk K hK
              have e70 : (a.tmps[70]?).getD undef = .string o.contact := hk 70 (by decide)
              have HS := Lib.hid hs
              have HN := Lib.hid (And.intro (hl 10 (by decide)) trivial)
              have HKK := Lib.hid hK
              clear hs hn hd hl hk hK
              go_simp
              refine (text_any o.contact 80 (by decide) _).mono ?_
              rintro e w5 ⟨rfl, hb⟩
              refine HKK.out _ _ ⟨HS.out.upd.trans (Upd.of_below hb (Nat.le_refl _)) HS.out.upd.size, fun _ => (HS.out.mem HN.out.1).call hb, fun u hu => (by have : some (Value.string (cutTo o.contact 80)) = some u := hu; cases this; rfl), fun u hu => HS.out.t6 u (by simpa [Reg.upd] using hu), fun u hu => ?_, fun u hu => ?_, fun u hu => ?_⟩
              · obtain ⟨A, c, e1, e2⟩ := HS.out.t9 u (by simpa [Reg.upd] using hu)
                exact ⟨A, c, e1, fun _ => (e2 HN.out.1).below hb⟩
              · obtain ⟨b, e1, e2, x0, x1, x2, x3, x4, x5, x6, x7, e3⟩ := HS.out.al u (by simpa [Reg.upd] using hu)
                exact ⟨b, e1, e2, x0, x1, x2, x3, x4, x5, x6, x7, blk_below e3 hb (blk_lt e3)⟩
              · have : rs 10 = some u := by simpa [Reg.upd] using hu
                rw [HN.out.1] at this
                cases this
            | 4, _ => exact Reg.Ob.pure rfl rfl rfl (fun rs => .pointer (some ⟨bo, 2, none⟩)) (fun _ => rfl) (fun rs wx a hs hd hl hk => by
                have e12 : (a.tmps[12]?).getD undef = .pointer (some ⟨bo, 0, none⟩) := hk 12 (by decide)
                go_simp)
            | 5, _ => exact Reg.Ob.pure rfl rfl rfl (fun rs => .string o.name) (fun _ => rfl) (fun rs wx a hs hd hl hk => by
                have e72 : (a.tmps[72]?).getD undef = .pointer (some ⟨bo, 2, none⟩) := hk 72 (by decide)
                have c : wx.cell? ⟨bo, 2, none⟩ = some (.string o.name) := (hs.upd.cell zbo nbo).trans b2
                go_simp)
            | 6, _ =>
              refine Reg.Ob.eff rfl rfl rfl ?_
              intro rs wx a hs hd hn hl hk K hK
              have e73 : (a.tmps[73]?).getD undef = .string o.name := hk 73 (by decide)
              have HS := Lib.hid hs
              have HN := Lib.hid (And.intro (hl 10 (by decide)) trivial)
              have HKK := Lib.hid hK
              clear hs hn hd hl hk hK
              go_simp
              refine (text_any o.name 80 (by decide) _).mono ?_
              rintro e w5 ⟨rfl, hb⟩
              refine HKK.out _ _ ⟨HS.out.upd.trans (Upd.of_below hb (Nat.le_refl _)) HS.out.upd.size, fun _ => (HS.out.mem HN.out.1).call hb, fun u hu => HS.out.t3 u (by simpa [Reg.upd] using hu), fun u hu => (by have : some (Value.string (cutTo o.name 80)) = some u := hu; cases this; rfl), fun u hu => ?_, fun u hu => ?_, fun u hu => ?_⟩
              · obtain ⟨A, c, e1, e2⟩ := HS.out.t9 u (by simpa [Reg.upd] using hu)
                exact ⟨A, c, e1, fun _ => (e2 HN.out.1).below hb⟩
              · obtain ⟨b, e1, e2, x0, x1, x2, x3, x4, x5, x6, x7, e3⟩ := HS.out.al u (by simpa [Reg.upd] using hu)
                exact ⟨b, e1, e2, x0, x1, x2, x3, x4, x5, x6, x7, blk_below e3 hb (blk_lt e3)⟩
              · have : rs 10 = some u := by simpa [Reg.upd] using hu
                rw [HN.out.1] at this
                cases this
            | 7, _ => exact Reg.Ob.pure rfl rfl rfl (fun rs => .pointer (some ⟨bo, 3, none⟩)) (fun _ => rfl) (fun rs wx a hs hd hl hk => by
                have e12 : (a.tmps[12]?).getD undef = .pointer (some ⟨bo, 0, none⟩) := hk 12 (by decide)
                go_simp)
            | 8, _ => exact Reg.Ob.pure rfl rfl rfl (fun rs => .slice GA o.groups.length gc) (fun _ => rfl) (fun rs wx a hs hd hl hk => by
                have e75 : (a.tmps[75]?).getD undef = .pointer (some ⟨bo, 3, none⟩) := hk 75 (by decide)
                have c : wx.cell? ⟨bo, 3, none⟩ = some (.slice GA o.groups.length gc) := (hs.upd.cell zbo nbo).trans b3
                go_simp)
            | 9, _ =>
              refine Reg.Ob.eff rfl rfl rfl ?_
              intro rs wx a hs hd hn hl hk K hK
              have e76 : (a.tmps[76]?).getD undef = .slice GA o.groups.length gc := hk 76 (by decide)
              have HS := Lib.hid hs
              have HN := Lib.hid (hl 10 (by decide))
              have HKK := Lib.hid hK
              clear hs hn hd hl hk hK
              go_simp
              refine (texts_any _ _ o.groups (HI.out.2.2.2.below (HS.out.mem HN.out).below) 12 80 (by decide) (by decide)).mono ?_
              rintro e w5 ⟨A9, c9, rfl, hb, hq⟩
              have hst := strs_of_seq hq (by rw [cutAll_length]; omega)
              refine HKK.out _ _ ⟨HS.out.upd.trans (Upd.of_below hb (Nat.le_refl _)) HS.out.upd.size, fun _ => (HS.out.mem HN.out).call hb, fun u hu => HS.out.t3 u (by simpa [Reg.upd] using hu), fun u hu => HS.out.t6 u (by simpa [Reg.upd] using hu), fun u hu => ?_, fun u hu => ?_, fun u hu => ?_⟩
              · have : some (Value.slice A9 (cutAll o.groups 12 80).length c9) = some u := hu
                cases this
                exact ⟨A9, c9, rfl, fun _ => hst⟩
              · obtain ⟨b, e1, e2, x0, x1, x2, x3, x4, x5, x6, x7, e3⟩ := HS.out.al u (by simpa [Reg.upd] using hu)
                exact ⟨b, e1, e2, x0, x1, x2, x3, x4, x5, x6, x7, blk_below e3 hb (blk_lt e3)⟩
              · have : rs 10 = some u := by simpa [Reg.upd] using hu
                rw [HN.out] at this
                cases this
            | 10, _ =>
              refine Reg.Ob.eff rfl rfl rfl ?_
              intro rs wx a hs hd hn hl hk K hK
              have e68 : (a.tmps[68]?).getD undef = .pointer (some ⟨rb, 0, none⟩) := hk 68 (by decide)
              have e71 : (a.tmps[71]?).getD undef = ((rs 3).getD undef) := hk 71 (by decide)
              have e74 : (a.tmps[74]?).getD undef = ((rs 6).getD undef) := hk 74 (by decide)
              have e77 : (a.tmps[77]?).getD undef = ((rs 9).getD undef) := hk 77 (by decide)
              obtain ⟨u3, hu3⟩ := hd 3 (by decide) (by decide)
              obtain ⟨u6, hu6⟩ := hd 6 (by decide) (by decide)
              obtain ⟨u9, hu9⟩ := hd 9 (by decide) (by decide)
              obtain rfl := hs.t3 u3 hu3
              obtain rfl := hs.t6 u6 hu6
              obtain ⟨A9, c9, rfl, hst⟩ := hs.t9 u9 hu9
              have hst := hst hn
              rw [hu3] at e71
              rw [hu6] at e74
              rw [hu9] at e77
              simp only [Option.getD_some] at e71 e74 e77
              have C := rput_any (Classical.choose_spec (hs.mem hn).ro) (HT.out.later (hs.mem hn).below) (cutTo o.contact 80) (cutTo o.name 80) _ (cutAll o.groups 12 80) (by have := cutTo_size o.contact 80; omega) (by have := cutTo_size o.name 80; omega) hst (by rw [cutAll_length]; omega) (fun g hg => by have := cutAll_size hg; omega) (by omega) (hs.mem hn).below.size (hs.mem hn).ver.1 (by have := (hs.mem hn).ver; omega)
              have htold := told_put (hs.mem hn).inv (cutTo o.contact 80) (cutTo o.name 80) (cutAll o.groups 12 80)
              have HS := Lib.hid hs
              have HN := Lib.hid (And.intro hn htold)
              have HC := Lib.hid C
              have HKK := Lib.hid hK
              clear hs hn hd hl hk hK hu3 hu6 hu9 hst C htold
              go_simp
              refine HC.out.mono ?_
              rintro e w6 ⟨⟨A, c, rfl, _⟩, hro, hu⟩
              refine HKK.out _ _ ⟨HS.out.upd.trans hu HS.out.upd.size, fun h => by simp [Reg.upd] at h, fun u h => HS.out.t3 u (by simpa [Reg.upd] using h), fun u h => HS.out.t6 u (by simpa [Reg.upd] using h), fun u h => ?_, fun u h => ?_, fun u h => ?_⟩
              · obtain ⟨A, c, e1, _⟩ := HS.out.t9 u (by simpa [Reg.upd] using h)
                exact ⟨A, c, e1, fun h => by simp [Reg.upd] at h⟩
              · obtain ⟨b, e1, e2, x0, x1, x2, x3, x4, x5, x6, x7, e3⟩ := HS.out.al u (by simpa [Reg.upd] using h)
                exact ⟨b, e1, e2, x0, x1, x2, x3, x4, x5, x6, x7, (HS.out.mem HN.out.1).box e3 (by decide) hu⟩
              · have h2 : some _ = some u := h
                cases h2
                exact ⟨A, c, rfl, (HS.out.mem HN.out.1).told hro hu HN.out.2⟩
            | 11, _ => exact Reg.Ob.pure rfl rfl rfl (fun rs => ((rs 10).getD undef)) (fun _ => rfl) (fun rs wx a hs hd hl hk => by
                have e78 : (a.tmps[78]?).getD undef = ((rs 10).getD undef) := hk 78 (by decide)
                go_simp)
            | 12, _ => exact Reg.Ob.pure rfl rfl rfl (fun rs => (comp 0 ((rs 10).getD undef))) (fun _ => rfl) (fun rs wx a hs hd hl hk => by
                have e67 : (a.tmps[67]?).getD undef = ((rs 10).getD undef) := hk 67 (by decide)
                obtain ⟨u, hu⟩ := hd 10 (by decide) (by decide)
                obtain ⟨A, c, rfl, _⟩ := hs.post u hu
                rw [hu] at e67 ⊢
                simp only [Option.getD_some] at e67 ⊢
                rw [comp0]
                clear hs hd hl hk hu
                go_simp)
            | 13, _ => exact Reg.Ob.pure rfl rfl rfl (fun rs => (comp 1 ((rs 10).getD undef))) (fun _ => rfl) (fun rs wx a hs hd hl hk => by
                have e67 : (a.tmps[67]?).getD undef = ((rs 10).getD undef) := hk 67 (by decide)
                obtain ⟨u, hu⟩ := hd 10 (by decide) (by decide)
                obtain ⟨A, c, rfl, _⟩ := hs.post u hu
                rw [hu] at e67 ⊢
                simp only [Option.getD_some] at e67 ⊢
                rw [comp1]
                clear hs hd hl hk hu
                go_simp)
            | 14, _ =>
              refine Reg.Ob.eff rfl rfl rfl ?_
              intro rs wx a hs hd hn hl hk K hK
              have HS := Lib.hid hs
              have HN := Lib.hid hn
              have HKK := Lib.hid hK
              clear hs hn hd hl hk hK
              go_simp
              have hbA : Below wx.heap.size wx (wx.alloc (entC (Ent.new ⟨#[]⟩) (.slice none 0 0))) := (Below.refl _ _).alloc (Nat.le_refl _) _
              refine HKK.out _ _ ⟨HS.out.upd.alloc HS.out.upd.size _, fun h => (HS.out.mem (by simpa [Reg.upd] using h)).call hbA, fun u h => HS.out.t3 u (by simpa [Reg.upd] using h), fun u h => HS.out.t6 u (by simpa [Reg.upd] using h), fun u h => ?_, fun u h => ?_, fun u h => ?_⟩
              · obtain ⟨A, c, e1, e2⟩ := HS.out.t9 u (by simpa [Reg.upd] using h)
                exact ⟨A, c, e1, fun h => (e2 (by simpa [Reg.upd] using h)).below hbA⟩
              · have h2 : some (Value.pointer (some ⟨wx.heap.size, 0, none⟩)) = some u := h
                cases h2
                exact ⟨_, rfl, HS.out.upd.size, _, _, _, _, _, _, _, _, blk_new _ _⟩
              · obtain ⟨A, c, e1, e2⟩ := HS.out.post u (by simpa [Reg.upd] using h)
                exact ⟨A, c, e1, e2.call hbA⟩
            | 15, _ =>
              refine Reg.Ob.eff rfl rfl rfl ?_
              intro rs wx a hs hd hn hl hk K hK
              have e16 : (a.tmps[16]?).getD undef = ((rs 14).getD undef) := hk 16 (by decide)
              have e79 : (a.tmps[79]?).getD undef = (comp 0 ((rs 10).getD undef)) := hk 79 (by decide)
              obtain ⟨u10, hu10⟩ := hd 10 (by decide) (by decide)
              obtain ⟨u14, hu14⟩ := hd 14 (by decide) (by decide)
              obtain ⟨A, c, rfl, hpm⟩ := hs.post u10 hu10
              obtain ⟨b, rfl, hbw, x0, x1, x2, x3, x4, x5, x6, x7, hbx⟩ := hs.al u14 hu14
              rw [hu14] at e16
              rw [hu10] at e79
              simp only [Option.getD_some] at e16 e79
              have hX : e79 = e79 := rfl
              clear hX
              obtain ⟨X, hXX⟩ : ∃ X, R.putAll (cutTo o.contact 80) (cutTo o.name 80) (cutAll o.groups 12 80) = X := ⟨_, rfl⟩
              rw [hXX] at hs hpm e79 hK hu10
              have e79' : (a.tmps[79]?).getD undef = X.2.1.val (.slice A X.2.1.groups.length c) := e79
              clear e79
              obtain ⟨Q, ⟨contact, kept, name, groups, ⟨oo, on, oi, om⟩⟩, ec⟩ := X
              simp only [Ent.val] at e79'
              obtain ⟨z0, z1, z2, z3, z4, z5, z6, z7, f0, f1, f2, f3, f4, f5, f6, f7⟩ := cells8 hbx
              have HS := Lib.hid hs
              have HN := Lib.hid (And.intro hpm (And.intro hbw (And.intro hbx (And.intro hu10 hu14))))
              have HKK := Lib.hid hK
              clear hs hn hd hl hk hK hpm hbw hbx hu10 hu14 hXX
              go_simp
              obtain ⟨hpm, hbw, hbx, hu10, hu14⟩ := HN.out
              have hs8 := upd_set8 (b := b) (ks := fun k => k = b) (Upd.refl wx.heap.size _ wx) (.inl rfl) (.string contact) (.bool kept) (.string name) (.slice A groups.length c) (.int .i64 oo) (.int .u64 on) (.int .i64 oi) (.int .u64 om)
              refine HKK.out undef _ ⟨HS.out.upd.comp hs8 HS.out.upd.size (fun k hk e => by omega), fun h => ?_, fun u h => HS.out.t3 u (by simpa [Reg.upd] using h), fun u h => HS.out.t6 u (by simpa [Reg.upd] using h), fun u h => ?_, fun u h => ?_, fun u h => ?_⟩
              · have : rs 10 = none := by simpa [Reg.upd] using h
                rw [hu10] at this
                cases this
              · obtain ⟨A, c, e1, _⟩ := HS.out.t9 u (by simpa [Reg.upd] using h)
                exact ⟨A, c, e1, fun h => by
                  have : rs 10 = none := by simpa [Reg.upd] using h
                  rw [hu10] at this
                  cases this⟩
              · have : rs 14 = some u := by simpa [Reg.upd] using h
                rw [hu14] at this
                cases this
                exact ⟨b, rfl, hbw, _, _, _, _, _, _, _, _, blk_set8 hbx _ _ _ _ _ _ _ _⟩
              · have : rs 10 = some u := by simpa [Reg.upd] using h
                rw [hu10] at this
                cases this
                exact ⟨A, c, rfl, hpm.set8 hbx (Nat.le_trans HM4.out.1.below.size hbw) _ _ _ _ _ _ _ _⟩
            | 16, _ => exact Reg.Ob.pure rfl rfl rfl (fun rs => (comp 1 ((rs 10).getD undef))) (fun _ => rfl) (fun rs wx a hs hd hl hk => by
                have e80 : (a.tmps[80]?).getD undef = (comp 1 ((rs 10).getD undef)) := hk 80 (by decide)
                go_simp)
            | n + 17, h => exact absurd h (by simp <;> omega)
          case h0 =>
            exact ⟨(Upd.refl _ _ _).drew, fun _ => HM4.out.1.call ((Below.refl _ _).drew), fun u hu => (by cases hu), fun u hu => (by cases hu), fun u hu => (by cases hu), fun u hu => (by cases hu), fun u hu => (by cases hu)⟩
          case hend =>
            intro rs wx hs hd
            obtain ⟨u10, hu10⟩ := hd 10 (by decide) (by decide)
            obtain ⟨u15, hu15⟩ := hd 15 (by decide) (by decide)
            obtain ⟨A, c, rfl, hpm⟩ := hs.post u10 hu10
            have htold := told_put HI.out.1 (cutTo o.contact 80) (cutTo o.name 80) (cutAll o.groups 12 80)
            have HR := Lib.hid (And.intro htold (And.intro hpm (HM4.out.2.2.ro HM4.out.1 hs.upd)))
            have HU := Lib.hid hu10
            simp only [List.foldl_cons, List.foldl_nil, Act.put, List.setIfInBounds_toArray, List.set_cons_zero, List.set_cons_succ]
            rw [hu10]
            simp only [Option.getD_some, comp1]
            clear hs hd hu10 hu15 htold hpm HU
            go_wp2_with fail
            go_meet
            exact ⟨_, _, rfl, HR.out.1, HR.out.2.1, HR.out.2.2⟩
        · by_cases a2 : o.act = 2
          · have q1 : (o.act == 1) = false := by simp [a1]
            have q2 : (o.act == 2) = true := by simp [a2]
            have HI := Lib.hid (And.intro hinv hcs)
            clear a1 a2 hinv hst hgs hcs hns hn0 hn1 b0 b2 b3 b4 b5
            go_wp2_with fail
            refine (text_any o.contact 80 (by decide) _).mono ?_
            rintro e w5 ⟨rfl, hb5⟩
            have HM5 := Lib.hid (And.intro (HM4.out.1.call hb5) (HM4.out.2.2.below hb5))
            clear hb5
            go_wp2_with fail
            refine (rdrop_any (Classical.choose_spec HM5.out.1.ro) (HT.out.later HM5.out.1.below) (cutTo o.contact 80) (by have := cutTo_size o.contact 80; omega) (by omega) HM5.out.1.below.size HM5.out.1.ver.1 (by have := HM5.out.1.ver; omega)).mono ?_
            rintro e w6 ⟨⟨A6, c6, rfl, _⟩, hro, hu⟩
            have HR := Lib.hid (And.intro (told_drop HI.out.1 (cutTo o.contact 80)) (And.intro (HM5.out.1.told hro hu (told_drop HI.out.1 _)) (HM5.out.2.ro HM5.out.1 hu)))
            clear hro hu
            go_wp2_with fail
            go_meet
            exact ⟨_, _, rfl, HR.out.1, HR.out.2.1, HR.out.2.2⟩
          · by_cases a4 : o.act = 4
            · have q1 : (o.act == 1) = false := by simp [a1]
              have q2 : (o.act == 2) = false := by simp [a2]
              have q4 : (o.act == 4) = true := by simp [a4]
              have HI := Lib.hid (And.intro hinv hcs)
              clear a1 a2 a4 hinv hst hgs hcs hns hn0 hn1
              go_upto_region 19 with fail
              refine Reg.wp_region_puts (A := [[], [], [1], [2, 1], [], [4], [0, 3, 2, 1, 5, 4]]) (effs := [3, 6]) (N := 169)
                (val := fun i r => match i with | 0 => .pointer (some ⟨rb, 0, none⟩) | 1 => .pointer (some ⟨bo, 1, none⟩) | 2 => .string o.contact | 4 => .pointer (some ⟨bo, 4, none⟩) | 5 => .int .i64 o.kind | _ => undef)
                (Stage := fun rs wx => OneSt w w4 wx rb mb k R (R.actAll (cutTo o.contact 80) o.kind).1 (cutTo o.contact 80) 3 6 rs)
                (fun rs => [(some 92, .pointer (some ⟨rb, 0, none⟩)), (some 93, .pointer (some ⟨bo, 1, none⟩)), (some 94, .string o.contact), (some 95, (rs 3).getD undef), (some 96, .pointer (some ⟨bo, 4, none⟩)), (some 97, .int .i64 o.kind), (some 98, (rs 6).getD undef)])
                (by kernel_rfl) (by kernel_rfl) rfl (fun _ => rfl) ?h0 ?hob ?hend
              case hob =>
                intro i hi
                match i, hi with
                | 0, _ => exact Reg.Ob.pure rfl rfl rfl (fun rs => .pointer (some ⟨rb, 0, none⟩)) (fun _ => rfl) (fun rs wx a hs hd hl hk => by
                    have e9 : (a.tmps[9]?).getD undef = .pointer (some ⟨rb, 0, none⟩) := hk 9 (by decide)
                    go_simp)
                | 1, _ => exact Reg.Ob.pure rfl rfl rfl (fun rs => .pointer (some ⟨bo, 1, none⟩)) (fun _ => rfl) (fun rs wx a hs hd hl hk => by
                    have e12 : (a.tmps[12]?).getD undef = .pointer (some ⟨bo, 0, none⟩) := hk 12 (by decide)
                    go_simp)
                | 2, _ => exact Reg.Ob.pure rfl rfl rfl (fun rs => .string o.contact) (fun _ => rfl) (fun rs wx a hs hd hl hk => by
                    have e93 : (a.tmps[93]?).getD undef = .pointer (some ⟨bo, 1, none⟩) := hk 93 (by decide)
                    have c : wx.cell? ⟨bo, 1, none⟩ = some (.string o.contact) := (hs.upd.cell zbo nbo).trans b1
                    go_simp)
                | 3, _ =>
                  refine Reg.Ob.eff rfl rfl rfl ?_
                  intro rs wx a hs hd hn hl hk K hK
                  have e94 : (a.tmps[94]?).getD undef = .string o.contact := hk 94 (by decide)
                  have HS := Lib.hid hs
                  have HN := Lib.hid (hl 6 (by decide))
                  have HKK := Lib.hid hK
                  clear hs hn hd hl hk hK
                  go_simp
                  refine (text_any o.contact 80 (by decide) _).mono ?_
                  rintro e w5 ⟨rfl, hb⟩
                  refine HKK.out _ _ ⟨HS.out.upd.trans (Upd.of_below hb (Nat.le_refl _)) HS.out.upd.size, fun _ => (HS.out.mem HN.out).call hb, fun u hu => (by have : some (Value.string (cutTo o.contact 80)) = some u := hu; cases this; rfl), fun u hu => ?_⟩
                  have : rs 6 = some u := by simpa [Reg.upd] using hu
                  rw [HN.out] at this
                  cases this
                | 4, _ => exact Reg.Ob.pure rfl rfl rfl (fun rs => .pointer (some ⟨bo, 4, none⟩)) (fun _ => rfl) (fun rs wx a hs hd hl hk => by
                    have e12 : (a.tmps[12]?).getD undef = .pointer (some ⟨bo, 0, none⟩) := hk 12 (by decide)
                    go_simp)
                | 5, _ => exact Reg.Ob.pure rfl rfl rfl (fun rs => .int .i64 o.kind) (fun _ => rfl) (fun rs wx a hs hd hl hk => by
                    have e96 : (a.tmps[96]?).getD undef = .pointer (some ⟨bo, 4, none⟩) := hk 96 (by decide)
                    have c : wx.cell? ⟨bo, 4, none⟩ = some (.int .i64 o.kind) := (hs.upd.cell zbo nbo).trans b4
                    go_simp)
                | 6, _ =>
                  refine Reg.Ob.eff rfl rfl rfl ?_
                  intro rs wx a hs hd hn hl hk K hK
                  have e92 : (a.tmps[92]?).getD undef = .pointer (some ⟨rb, 0, none⟩) := hk 92 (by decide)
                  have e95 : (a.tmps[95]?).getD undef = ((rs 3).getD undef) := hk 95 (by decide)
                  have e97 : (a.tmps[97]?).getD undef = .int .i64 o.kind := hk 97 (by decide)
                  obtain ⟨u, hu⟩ := hd 3 (by decide) (by decide)
                  obtain rfl := hs.txt u hu
                  rw [hu] at e95
                  simp only [Option.getD_some] at e95
                  have HS := Lib.hid hs
                  have HN := Lib.hid hn
                  have HKK := Lib.hid hK
                  clear hs hn hd hl hk hK hu
                  go_simp
                  refine (ract_any (Classical.choose_spec (HS.out.mem HN.out).ro) (HT.out.later (HS.out.mem HN.out).below) (cutTo o.contact 80) o.kind (by have := cutTo_size o.contact 80; omega) (by omega) (HS.out.mem HN.out).below.size (HS.out.mem HN.out).next.1 (by have := (HS.out.mem HN.out).next; omega) (HS.out.mem HN.out).ver.1 (by have := (HS.out.mem HN.out).ver; omega)).mono ?_
                  rintro e w6 ⟨rfl, hro, hu⟩
                  refine HKK.out _ _ ⟨HS.out.upd.trans hu HS.out.upd.size, fun h => by simp [Reg.upd] at h, fun u h => HS.out.txt u (by simpa [Reg.upd] using h), fun u _ => (HS.out.mem HN.out).told hro hu (told_act HI.out.1 (cutTo o.contact 80) o.kind)⟩
                | n + 7, h => exact absurd h (by simp <;> omega)
              case h0 =>
                exact ⟨(Upd.refl _ _ _).drew, fun _ => HM4.out.1.call ((Below.refl _ _).drew), fun u hu => (by cases hu), fun u hu => (by cases hu)⟩
              case hend =>
                intro rs wx hs hd
                obtain ⟨u, hu⟩ := hd 6 (by decide) (by decide)
                have HR := Lib.hid (And.intro (told_act HI.out.1 (cutTo o.contact 80) o.kind) (And.intro (hs.post u hu) (HM4.out.2.2.ro HM4.out.1 hs.upd)))
                clear hs hd hu
                simp only [List.foldl_cons, List.foldl_nil, Act.put, List.setIfInBounds_toArray, List.set_cons_zero, List.set_cons_succ]
                go_wp2_with fail
                go_meet
                exact ⟨_, _, rfl, HR.out.1, HR.out.2.1, HR.out.2.2⟩
            · by_cases a5 : o.act = 5
              · have q1 : (o.act == 1) = false := by simp [a1]
                have q2 : (o.act == 2) = false := by simp [a2]
                have q4 : (o.act == 4) = false := by simp [a4]
                have q5 : (o.act == 5) = true := by simp [a5]
                have HI := Lib.hid (And.intro hinv hcs)
                clear a1 a2 a4 a5 hinv hst hgs hcs hns hn0 hn1
                go_upto_region 21 with fail
                refine Reg.wp_region_puts (A := [[], [], [1], [2, 1], [], [4], [], [6], [0, 3, 2, 1, 5, 4, 7, 6]]) (effs := [3, 8]) (N := 169)
                  (val := fun i r => match i with | 0 => .pointer (some ⟨rb, 0, none⟩) | 1 => .pointer (some ⟨bo, 1, none⟩) | 2 => .string o.contact | 4 => .pointer (some ⟨bo, 4, none⟩) | 5 => .int .i64 o.kind | 6 => .pointer (some ⟨bo, 5, none⟩) | 7 => .int .u64 o.n | _ => undef)
                  (Stage := fun rs wx => OneSt w w4 wx rb mb k R (R.hearAll (cutTo o.contact 80) o.kind o.n).1 (cutTo o.contact 80) 3 8 rs)
                  (fun rs => [(some 101, .pointer (some ⟨rb, 0, none⟩)), (some 102, .pointer (some ⟨bo, 1, none⟩)), (some 103, .string o.contact), (some 104, (rs 3).getD undef), (some 105, .pointer (some ⟨bo, 4, none⟩)), (some 106, .int .i64 o.kind), (some 107, .pointer (some ⟨bo, 5, none⟩)), (some 108, .int .u64 o.n), (some 109, (rs 8).getD undef)])
                  (by kernel_rfl) (by kernel_rfl) rfl (fun _ => rfl) ?h0 ?hob ?hend
                case hob =>
                  intro i hi
                  match i, hi with
                  | 0, _ => exact Reg.Ob.pure rfl rfl rfl (fun rs => .pointer (some ⟨rb, 0, none⟩)) (fun _ => rfl) (fun rs wx a hs hd hl hk => by
                      have e9 : (a.tmps[9]?).getD undef = .pointer (some ⟨rb, 0, none⟩) := hk 9 (by decide)
                      go_simp)
                  | 1, _ => exact Reg.Ob.pure rfl rfl rfl (fun rs => .pointer (some ⟨bo, 1, none⟩)) (fun _ => rfl) (fun rs wx a hs hd hl hk => by
                      have e12 : (a.tmps[12]?).getD undef = .pointer (some ⟨bo, 0, none⟩) := hk 12 (by decide)
                      go_simp)
                  | 2, _ => exact Reg.Ob.pure rfl rfl rfl (fun rs => .string o.contact) (fun _ => rfl) (fun rs wx a hs hd hl hk => by
                      have e102 : (a.tmps[102]?).getD undef = .pointer (some ⟨bo, 1, none⟩) := hk 102 (by decide)
                      have c : wx.cell? ⟨bo, 1, none⟩ = some (.string o.contact) := (hs.upd.cell zbo nbo).trans b1
                      go_simp)
                  | 3, _ =>
                    refine Reg.Ob.eff rfl rfl rfl ?_
                    intro rs wx a hs hd hn hl hk K hK
                    have e103 : (a.tmps[103]?).getD undef = .string o.contact := hk 103 (by decide)
                    have HS := Lib.hid hs
                    have HN := Lib.hid (hl 8 (by decide))
                    have HKK := Lib.hid hK
                    clear hs hn hd hl hk hK
                    go_simp
                    refine (text_any o.contact 80 (by decide) _).mono ?_
                    rintro e w5 ⟨rfl, hb⟩
                    refine HKK.out _ _ ⟨HS.out.upd.trans (Upd.of_below hb (Nat.le_refl _)) HS.out.upd.size, fun _ => (HS.out.mem HN.out).call hb, fun u hu => (by have : some (Value.string (cutTo o.contact 80)) = some u := hu; cases this; rfl), fun u hu => ?_⟩
                    have : rs 8 = some u := by simpa [Reg.upd] using hu
                    rw [HN.out] at this
                    cases this
                  | 4, _ => exact Reg.Ob.pure rfl rfl rfl (fun rs => .pointer (some ⟨bo, 4, none⟩)) (fun _ => rfl) (fun rs wx a hs hd hl hk => by
                      have e12 : (a.tmps[12]?).getD undef = .pointer (some ⟨bo, 0, none⟩) := hk 12 (by decide)
                      go_simp)
                  | 5, _ => exact Reg.Ob.pure rfl rfl rfl (fun rs => .int .i64 o.kind) (fun _ => rfl) (fun rs wx a hs hd hl hk => by
                      have e105 : (a.tmps[105]?).getD undef = .pointer (some ⟨bo, 4, none⟩) := hk 105 (by decide)
                      have c : wx.cell? ⟨bo, 4, none⟩ = some (.int .i64 o.kind) := (hs.upd.cell zbo nbo).trans b4
                      go_simp)
                  | 6, _ => exact Reg.Ob.pure rfl rfl rfl (fun rs => .pointer (some ⟨bo, 5, none⟩)) (fun _ => rfl) (fun rs wx a hs hd hl hk => by
                      have e12 : (a.tmps[12]?).getD undef = .pointer (some ⟨bo, 0, none⟩) := hk 12 (by decide)
                      go_simp)
                  | 7, _ => exact Reg.Ob.pure rfl rfl rfl (fun rs => .int .u64 o.n) (fun _ => rfl) (fun rs wx a hs hd hl hk => by
                      have e107 : (a.tmps[107]?).getD undef = .pointer (some ⟨bo, 5, none⟩) := hk 107 (by decide)
                      have c : wx.cell? ⟨bo, 5, none⟩ = some (.int .u64 o.n) := (hs.upd.cell zbo nbo).trans b5
                      go_simp)
                  | 8, _ =>
                    refine Reg.Ob.eff rfl rfl rfl ?_
                    intro rs wx a hs hd hn hl hk K hK
                    have e101 : (a.tmps[101]?).getD undef = .pointer (some ⟨rb, 0, none⟩) := hk 101 (by decide)
                    have e104 : (a.tmps[104]?).getD undef = ((rs 3).getD undef) := hk 104 (by decide)
                    have e106 : (a.tmps[106]?).getD undef = .int .i64 o.kind := hk 106 (by decide)
                    have e108 : (a.tmps[108]?).getD undef = .int .u64 o.n := hk 108 (by decide)
                    obtain ⟨u, hu⟩ := hd 3 (by decide) (by decide)
                    obtain rfl := hs.txt u hu
                    rw [hu] at e104
                    simp only [Option.getD_some] at e104
                    have HS := Lib.hid hs
                    have HN := Lib.hid hn
                    have HKK := Lib.hid hK
                    clear hs hn hd hl hk hK hu
                    go_simp
                    refine (rhear_any (Classical.choose_spec (HS.out.mem HN.out).ro) (HT.out.later (HS.out.mem HN.out).below) (cutTo o.contact 80) o.kind o.n (by have := cutTo_size o.contact 80; omega) (by omega) (HS.out.mem HN.out).below.size (HS.out.mem HN.out).ver.1 (by have := (HS.out.mem HN.out).ver; omega)).mono ?_
                    rintro e w6 ⟨rfl, hro, hu⟩
                    refine HKK.out _ _ ⟨HS.out.upd.trans hu HS.out.upd.size, fun h => by simp [Reg.upd] at h, fun u h => HS.out.txt u (by simpa [Reg.upd] using h), fun u _ => (HS.out.mem HN.out).told hro hu (told_hear HI.out.1 (cutTo o.contact 80) o.kind o.n)⟩
                  | n + 9, h => exact absurd h (by simp <;> omega)
                case h0 =>
                  exact ⟨(Upd.refl _ _ _).drew, fun _ => HM4.out.1.call ((Below.refl _ _).drew), fun u hu => (by cases hu), fun u hu => (by cases hu)⟩
                case hend =>
                  intro rs wx hs hd
                  obtain ⟨u, hu⟩ := hd 8 (by decide) (by decide)
                  have HR := Lib.hid (And.intro (told_hear HI.out.1 (cutTo o.contact 80) o.kind o.n) (And.intro (hs.post u hu) (HM4.out.2.2.ro HM4.out.1 hs.upd)))
                  clear hs hd hu
                  simp only [List.foldl_cons, List.foldl_nil, Act.put, List.setIfInBounds_toArray, List.set_cons_zero, List.set_cons_succ]
                  go_wp2_with fail
                  go_meet
                  exact ⟨_, _, rfl, HR.out.1, HR.out.2.1, HR.out.2.2⟩
              · have q1 : (o.act == 1) = false := by simp [a1]
                have q2 : (o.act == 2) = false := by simp [a2]
                have q4 : (o.act == 4) = false := by simp [a4]
                have q5 : (o.act == 5) = false := by simp [a5]
                have HI := Lib.hid (Told.refl hinv)
                clear a1 a2 a4 a5 hinv hst hgs hcs hns hn0 hn1
                go_wp2_with fail
                go_meet
                exact ⟨R, false, rfl, HI.out, HM4.out.1.up, HM4.out.2.2⟩
      case rest =>
        obtain ⟨R', d, rfl, htold, hm5, he5⟩ := hcut
        have hlen' : R'.list.length ≤ 1000000 := by have := hm5.len; omega
        have HM5 := Lib.hid (And.intro hm5 (And.intro he5 htold))
        clear hm5 he5 htold HM4
        go_wp2_with fail
        refine (items_any (Classical.choose_spec HM5.out.1.ro) hlen' HM5.out.1.keys).mono ?_
        rintro e w6 ⟨WB, wd, rfl, hE6, hb6⟩
        have HM6 := Lib.hid (And.intro (HM5.out.1.call hb6) (And.intro (HM5.out.2.1.below hb6) hE6))
        have HTO := Lib.hid HM5.out.2.2
        clear hb6 hE6 HM5
        obtain ⟨l1, hl1⟩ : ∃ l, R.kepts = l := ⟨_, rfl⟩
        obtain ⟨l2, hl2⟩ : ∃ l, R'.kepts = l := ⟨_, rfl⟩
        rw [hl1, hl2] at HM6
        rw [hl1, hl2]
        have HLL := Lib.hid (And.intro hl1 hl2)
        clear hl1 hl2
        obtain ⟨B6, hB6⟩ : ∃ B, wc.heap.size = B := ⟨_, rfl⟩
        rw [hB6] at HM6
        clear hB6
        go_upto_block 3 with fail
        go_cut [19, 20] (fun s19 s20 wx => ∃ j : Nat, s19 = .bool (decide (l2 = l1)) ∧ s20 = .int .i64 j ∧ BMem w wx rb mb R' (k + 1) ∧ Ents wx B4 (.slice WA l1.length nca) l1 ∧ Ents wx B6 (.slice WB l2.length wd) l2)
        case first =>
          go_wp2_with fail
          go_loopg [19, 20] l2.length (fun g s19 s20 wx => ∃ (j : Nat) (q : Bool), j ≤ l2.length ∧ g = l2.length - j ∧ s19 = .bool q ∧ s20 = .int .i64 j ∧ (q = decide (l2.length = l1.length ∧ l2.take j = l1.take j)) ∧ BMem w wx rb mb R' (k + 1) ∧ Ents wx B4 (.slice WA l1.length nca) l1 ∧ Ents wx B6 (.slice WB l2.length wd) l2)
          case atStart => exact ⟨0, _, Nat.zero_le _, rfl, rfl, rfl, same_start l1 l2, HM6.out.1, HM6.out.2.1, HM6.out.2.2⟩
          case round =>
            obtain ⟨j, q, hj, hgj, rfl, rfl, hq, hm7, he7, hf7⟩ := hrel
            have hjb : j ≤ 1000000 := by
              have h1 := RS.kept_le R'
              have h2 := HTO.out.inv.look.2.2.1
              rw [HLL.out.2] at h2
              omega
            have HE7 := Lib.hid (And.intro hm7 (And.intro he7 hf7))
            have HJ := Lib.hid (And.intro hj (And.intro hgj hq))
            clear hm7 he7 hf7 hj hgj hq
            by_cases hjl : j < l2.length
            · have u1 : (j : Int) < (l2.length : Int) := by omega
              have u0 : (0 : Int) ≤ (j : Int) := by omega
              have hwj : IntKind.i64.wrap ((j : Int) + 1) = (j : Int) + 1 := IntWalk.i64_in _ (by omega)
              rcases Bool.eq_false_or_eq_true q with hqt | hqf
              · subst hqt
                have hqq := of_decide_eq_true HJ.out.2.2.symm
                have hj1 : j < l1.length := by omega
                have u2 : (j : Int) < (l1.length : Int) := by omega
                obtain ⟨bp, op, e1, g1, rfl, he1, hg1, hcp⟩ := HE7.out.2.1.at hj1
                obtain ⟨bq, oq, e2, g2, rfl, he2, hg2, hcq⟩ := HE7.out.2.2.at hjl
                have p0 : wr.cell? ⟨bp, op + j * 8, none⟩ = some (.string e1.contact) := hcp 0 (by decide)
                have p1 : wr.cell? ⟨bp, op + j * 8 + 1, none⟩ = some (.bool e1.kept) := hcp 1 (by decide)
                have p2 : wr.cell? ⟨bp, op + j * 8 + 2, none⟩ = some (.string e1.name) := hcp 2 (by decide)
                have p3 : wr.cell? ⟨bp, op + j * 8 + 3, none⟩ = some (g1) := hcp 3 (by decide)
                have p4 : wr.cell? ⟨bp, op + j * 8 + 4, none⟩ = some (.int .i64 e1.half.o) := hcp 4 (by decide)
                have p5 : wr.cell? ⟨bp, op + j * 8 + 5, none⟩ = some (.int .u64 e1.half.n) := hcp 5 (by decide)
                have p6 : wr.cell? ⟨bp, op + j * 8 + 6, none⟩ = some (.int .i64 e1.half.i) := hcp 6 (by decide)
                have p7 : wr.cell? ⟨bp, op + j * 8 + 7, none⟩ = some (.int .u64 e1.half.m) := hcp 7 (by decide)
                have q0 : wr.cell? ⟨bq, oq + j * 8, none⟩ = some (.string e2.contact) := hcq 0 (by decide)
                have q1 : wr.cell? ⟨bq, oq + j * 8 + 1, none⟩ = some (.bool e2.kept) := hcq 1 (by decide)
                have q2 : wr.cell? ⟨bq, oq + j * 8 + 2, none⟩ = some (.string e2.name) := hcq 2 (by decide)
                have q3 : wr.cell? ⟨bq, oq + j * 8 + 3, none⟩ = some (g2) := hcq 3 (by decide)
                have q4 : wr.cell? ⟨bq, oq + j * 8 + 4, none⟩ = some (.int .i64 e2.half.o) := hcq 4 (by decide)
                have q5 : wr.cell? ⟨bq, oq + j * 8 + 5, none⟩ = some (.int .u64 e2.half.n) := hcq 5 (by decide)
                have q6 : wr.cell? ⟨bq, oq + j * 8 + 6, none⟩ = some (.int .i64 e2.half.i) := hcq 6 (by decide)
                have q7 : wr.cell? ⟨bq, oq + j * 8 + 7, none⟩ = some (.int .u64 e2.half.m) := hcq 7 (by decide)
                have CS := fun (W : World) (hW : Below wr.heap.size wr W) => sameEnt_any e2 e1 g2 g1 W (hg2.below hW) (hg1.below hW)
                have HCS := Lib.hid CS
                have HQ := Lib.hid (And.intro hqq (And.intro he1 he2))
                have zp : bp < wr.heap.size := cell_lt' p0
                have zq : bq < wr.heap.size := cell_lt' q0
                clear CS hg1 hg2 hcp hcq hqq he1 he2
                go_upto_region 27 with fail
                refine Reg.wp_region_puts (A := [[], [], [0, 1], [2, 0, 1], [], [], [4, 5], [6, 4, 5], [3, 2, 0, 1, 7, 6, 4, 5], [8, 3, 2, 0, 1, 7, 6, 4, 5]]) (effs := [8]) (N := 169)
                  (val := fun i r => match i with | 0 => .slice (some ⟨bq, oq, none⟩) l2.length wd | 1 => .int .i64 j | 2 => .pointer (some ⟨bq, oq + j * 8, none⟩) | 3 => .agg #[.string e2.contact, .bool e2.kept, .string e2.name, g2, .int .i64 e2.half.o, .int .u64 e2.half.n, .int .i64 e2.half.i, .int .u64 e2.half.m] | 4 => .slice (some ⟨bp, op, none⟩) l1.length nca | 5 => .int .i64 j | 6 => .pointer (some ⟨bp, op + j * 8, none⟩) | 7 => .agg #[.string e1.contact, .bool e1.kept, .string e1.name, g1, .int .i64 e1.half.o, .int .u64 e1.half.n, .int .i64 e1.half.i, .int .u64 e1.half.m] | 9 => (r 8) | _ => undef)
                  (Stage := fun rs wx => Below wr.heap.size wr wx ∧ ∀ u, rs 8 = some u → u = .bool (decide (e2 = e1)))
                  (fun rs => [(some 126, .slice (some ⟨bq, oq, none⟩) l2.length wd), (some 127, .int .i64 j), (some 128, .pointer (some ⟨bq, oq + j * 8, none⟩)), (some 129, .agg #[.string e2.contact, .bool e2.kept, .string e2.name, g2, .int .i64 e2.half.o, .int .u64 e2.half.n, .int .i64 e2.half.i, .int .u64 e2.half.m]), (some 130, .slice (some ⟨bp, op, none⟩) l1.length nca), (some 131, .int .i64 j), (some 132, .pointer (some ⟨bp, op + j * 8, none⟩)), (some 133, .agg #[.string e1.contact, .bool e1.kept, .string e1.name, g1, .int .i64 e1.half.o, .int .u64 e1.half.n, .int .i64 e1.half.i, .int .u64 e1.half.m]), (some 134, (rs 8).getD undef), (some 19, ((rs 8).getD undef))])
                  (by kernel_rfl) (by kernel_rfl) rfl (fun _ => rfl) ?h0 ?hob ?hend
                case hob =>
                  intro i hi
                  match i, hi with
                  | 0, _ => exact Reg.Ob.pure rfl rfl rfl (fun rs => .slice (some ⟨bq, oq, none⟩) l2.length wd) (fun _ => rfl) (fun rs wx a hs hd hl hk => by
                      have e18 : (a.tmps[18]?).getD undef = .slice (some ⟨bq, oq, none⟩) l2.length wd := hk 18 (by decide)
                      go_simp)
                  | 1, _ => exact Reg.Ob.pure rfl rfl rfl (fun rs => .int .i64 j) (fun _ => rfl) (fun rs wx a hs hd hl hk => by
                      have e20 : (a.tmps[20]?).getD undef = .int .i64 j := hk 20 (by decide)
                      go_simp)
                  | 2, _ => exact Reg.Ob.pure rfl rfl rfl (fun rs => .pointer (some ⟨bq, oq + j * 8, none⟩)) (fun _ => rfl) (fun rs wx a hs hd hl hk => by
                      have e126 : (a.tmps[126]?).getD undef = .slice (some ⟨bq, oq, none⟩) l2.length wd := hk 126 (by decide)
                      have e127 : (a.tmps[127]?).getD undef = .int .i64 j := hk 127 (by decide)
                      go_simp)
                  | 3, _ => exact Reg.Ob.pure rfl rfl rfl (fun rs => .agg #[.string e2.contact, .bool e2.kept, .string e2.name, g2, .int .i64 e2.half.o, .int .u64 e2.half.n, .int .i64 e2.half.i, .int .u64 e2.half.m]) (fun _ => rfl) (fun rs wx a hs hd hl hk => by
                      have e128 : (a.tmps[128]?).getD undef = .pointer (some ⟨bq, oq + j * 8, none⟩) := hk 128 (by decide)
                      have q0 : wx.cell? ⟨bq, oq + j * 8, none⟩ = some (.string e2.contact) := (hs.1.cell zq).trans q0
                      have q1 : wx.cell? ⟨bq, oq + j * 8 + 1, none⟩ = some (.bool e2.kept) := (hs.1.cell zq).trans q1
                      have q2 : wx.cell? ⟨bq, oq + j * 8 + 2, none⟩ = some (.string e2.name) := (hs.1.cell zq).trans q2
                      have q3 : wx.cell? ⟨bq, oq + j * 8 + 3, none⟩ = some (g2) := (hs.1.cell zq).trans q3
                      have q4 : wx.cell? ⟨bq, oq + j * 8 + 4, none⟩ = some (.int .i64 e2.half.o) := (hs.1.cell zq).trans q4
                      have q5 : wx.cell? ⟨bq, oq + j * 8 + 5, none⟩ = some (.int .u64 e2.half.n) := (hs.1.cell zq).trans q5
                      have q6 : wx.cell? ⟨bq, oq + j * 8 + 6, none⟩ = some (.int .i64 e2.half.i) := (hs.1.cell zq).trans q6
                      have q7 : wx.cell? ⟨bq, oq + j * 8 + 7, none⟩ = some (.int .u64 e2.half.m) := (hs.1.cell zq).trans q7
                      go_simp)
                  | 4, _ => exact Reg.Ob.pure rfl rfl rfl (fun rs => .slice (some ⟨bp, op, none⟩) l1.length nca) (fun _ => rfl) (fun rs wx a hs hd hl hk => by
                      have e14 : (a.tmps[14]?).getD undef = .slice (some ⟨bp, op, none⟩) l1.length nca := hk 14 (by decide)
                      go_simp)
                  | 5, _ => exact Reg.Ob.pure rfl rfl rfl (fun rs => .int .i64 j) (fun _ => rfl) (fun rs wx a hs hd hl hk => by
                      have e20 : (a.tmps[20]?).getD undef = .int .i64 j := hk 20 (by decide)
                      go_simp)
                  | 6, _ => exact Reg.Ob.pure rfl rfl rfl (fun rs => .pointer (some ⟨bp, op + j * 8, none⟩)) (fun _ => rfl) (fun rs wx a hs hd hl hk => by
                      have e130 : (a.tmps[130]?).getD undef = .slice (some ⟨bp, op, none⟩) l1.length nca := hk 130 (by decide)
                      have e131 : (a.tmps[131]?).getD undef = .int .i64 j := hk 131 (by decide)
                      go_simp)
                  | 7, _ => exact Reg.Ob.pure rfl rfl rfl (fun rs => .agg #[.string e1.contact, .bool e1.kept, .string e1.name, g1, .int .i64 e1.half.o, .int .u64 e1.half.n, .int .i64 e1.half.i, .int .u64 e1.half.m]) (fun _ => rfl) (fun rs wx a hs hd hl hk => by
                      have e132 : (a.tmps[132]?).getD undef = .pointer (some ⟨bp, op + j * 8, none⟩) := hk 132 (by decide)
                      have p0 : wx.cell? ⟨bp, op + j * 8, none⟩ = some (.string e1.contact) := (hs.1.cell zp).trans p0
                      have p1 : wx.cell? ⟨bp, op + j * 8 + 1, none⟩ = some (.bool e1.kept) := (hs.1.cell zp).trans p1
                      have p2 : wx.cell? ⟨bp, op + j * 8 + 2, none⟩ = some (.string e1.name) := (hs.1.cell zp).trans p2
                      have p3 : wx.cell? ⟨bp, op + j * 8 + 3, none⟩ = some (g1) := (hs.1.cell zp).trans p3
                      have p4 : wx.cell? ⟨bp, op + j * 8 + 4, none⟩ = some (.int .i64 e1.half.o) := (hs.1.cell zp).trans p4
                      have p5 : wx.cell? ⟨bp, op + j * 8 + 5, none⟩ = some (.int .u64 e1.half.n) := (hs.1.cell zp).trans p5
                      have p6 : wx.cell? ⟨bp, op + j * 8 + 6, none⟩ = some (.int .i64 e1.half.i) := (hs.1.cell zp).trans p6
                      have p7 : wx.cell? ⟨bp, op + j * 8 + 7, none⟩ = some (.int .u64 e1.half.m) := (hs.1.cell zp).trans p7
                      go_simp)
                  | 8, _ =>
                    refine Reg.Ob.eff rfl rfl rfl ?_
                    intro rs wx a hs hd hn hl hk K hK
                    have e129 : (a.tmps[129]?).getD undef = .agg #[.string e2.contact, .bool e2.kept, .string e2.name, g2, .int .i64 e2.half.o, .int .u64 e2.half.n, .int .i64 e2.half.i, .int .u64 e2.half.m] := hk 129 (by decide)
                    have e133 : (a.tmps[133]?).getD undef = .agg #[.string e1.contact, .bool e1.kept, .string e1.name, g1, .int .i64 e1.half.o, .int .u64 e1.half.n, .int .i64 e1.half.i, .int .u64 e1.half.m] := hk 133 (by decide)
                    have HS := Lib.hid hs
                    have HKK := Lib.hid hK
                    clear hs hn hd hl hk hK
                    go_simp
                    refine (HCS.out _ HS.out.1).mono ?_
                    rintro e w8 ⟨rfl, hb⟩
                    refine HKK.out _ _ ⟨HS.out.1.trans (hb.mono HS.out.1.size), fun u hu => (by have : some (Value.bool (sameE e2 e1)) = some u := hu; cases this; rw [sameE_eq])⟩
                  | 9, _ => exact Reg.Ob.pure rfl rfl rfl (fun rs => ((rs 8).getD undef)) (fun _ => rfl) (fun rs wx a hs hd hl hk => by
                      have e134 : (a.tmps[134]?).getD undef = ((rs 8).getD undef) := hk 134 (by decide)
                      go_simp)
                  | n + 10, h => exact absurd h (by simp <;> omega)
                case h0 =>
                  exact ⟨(Below.refl _ _).drew, fun u hu => (by cases hu)⟩
                case hend =>
                  intro rs wx hs hd
                  obtain ⟨u, hu⟩ := hd 8 (by decide) (by decide)
                  obtain rfl := hs.2 u hu
                  have HB := Lib.hid hs.1
                  simp only [List.foldl_cons, List.foldl_nil, Act.put, List.setIfInBounds_toArray, List.set_cons_zero, List.set_cons_succ]
                  rw [hu]
                  simp only [Option.getD_some]
                  clear hs hd hu
                  go_wp2_with fail
                  go_roundg (l2.length - (j + 1))
                  case measure => have := HJ.out.2.1; omega
                  case rel => exact ⟨j + 1, _, by omega, rfl, rfl, by go_num, same_step hj1 hjl HQ.out.1 HQ.out.2.1 HQ.out.2.2, HE7.out.1.call HB.out, HE7.out.2.1.below HB.out, HE7.out.2.2.below HB.out⟩
              · subst hqf
                have hqe := Lib.hid (same_end HJ.out.2.2 (.inr rfl))
                go_wp2_with fail
                go_meet
                exact ⟨j, by rw [← hqe.out], rfl, HE7.out.1, HE7.out.2.1, HE7.out.2.2⟩
            · have hqe := Lib.hid (same_end HJ.out.2.2 (.inl (by have := HJ.out.1; omega)))
              have u1 : ¬ (j : Int) < (l2.length : Int) := by omega
              rcases Bool.eq_false_or_eq_true q with hqt | hqf
              · subst hqt
                go_wp2_with fail
                go_meet
                exact ⟨j, by rw [← hqe.out], rfl, HE7.out.1, HE7.out.2.1, HE7.out.2.2⟩
              · subst hqf
                go_wp2_with fail
                go_meet
                exact ⟨j, by rw [← hqe.out], rfl, HE7.out.1, HE7.out.2.1, HE7.out.2.2⟩
        case rest =>
          obtain ⟨j, rfl, rfl, hm8, he8, hf8⟩ := hcut
          have hmm8 := hm8
          have look := HTO.out.inv.look
          have hone := HTO.out.one
          have hver := HTO.out.ver
          rw [HTO.out.items, HTO.out.asks, HK.out.2.2.1, HK.out.2.2.2, HLL.out.2] at look
          rw [HLL.out.1, HLL.out.2] at hver
          obtain ⟨al, hal⟩ : ∃ n, (R'.all fun _ => true).length = n := ⟨_, rfl⟩
          rw [hal] at look
          have lr' : R'.list.length ≤ 1000000 := by have := hm8.len; omega
          have vr := hm8.ver
          have v1 : ¬ (nn < (l2.length : Int)) := by omega
          have v2 : IntKind.i64.wrap ((al : Int) - (l2.length : Int)) = (al : Int) - (l2.length : Int) := IntWalk.i64_in _ (by omega)
          have v3 : ¬ (mm < (al : Int) - (l2.length : Int)) := by omega
          have v4 : IntKind.u64.wrap (R.ver + 1) = R.ver + 1 := IntWalk.u64_in _ (by omega)
          have v5 : ¬ (R.ver + 1 < R'.ver) := by omega
          have HM8 := Lib.hid (And.intro hm8 (And.intro he8 hf8))
          have HAL := Lib.hid hal
          obtain ⟨s, hs⟩ : ∃ s, decide (l2 = l1) = s := ⟨_, rfl⟩
          rw [hs] at hver ⊢
          clear hm8 he8 hf8 hmm8 look hone hs vr hal
          go_upto_region 28 with fail
          go_wp2_with fail
          refine (book_any (Classical.choose_spec HM8.out.1.ro) lr' HM8.out.1.keys).mono ?_
          rintro e w8 ⟨WC, we, rfl, _, hb8⟩
          rw [HAL.out]
          have HM9 := Lib.hid (HM8.out.1.call hb8)
          have hf : ∀ w, (Instr.field 68 (.agg #[.int .i64 R'.items, .int .i64 R'.asks, .int .u64 R'.ver, .int .u64 R'.next, .slice WC al we]) 4).run Tryz.prog w = .ok (.slice WC al we) w := fun _ => by kernel_rfl
          clear hb8 HM8
          go_wp2_with fail
          refine (rver_any (Classical.choose_spec HM9.out.ro)).mono ?_
          rintro e w9 ⟨rfl, hb9⟩
          have HM10 := Lib.hid (HM9.out.call hb9)
          clear hb9 HM9
          have hvr : (R'.ver != R.ver) = (!s || d) := by rw [← hver, bne, Bool.eq_iff_iff]; simp
          obtain ⟨rv, hrv⟩ : ∃ x, R'.ver = x := ⟨_, rfl⟩
          rw [hrv] at v5 hvr ⊢
          have HRV := Lib.hid hrv
          clear hver hrv
          cases s <;> cases d
          all_goals (
            simp only [Bool.not_true, Bool.not_false, Bool.true_or, Bool.false_or, Bool.or_true, Bool.or_false] at hvr
            go_wp2_with fail
            refine (rver_any (Classical.choose_spec HM10.out.ro)).mono ?_
            rintro e w10 ⟨rfl, hb10⟩
            rw [HRV.out]
            have HM11 := Lib.hid (HM10.out.call hb10)
            clear hb10
            go_wp2_with fail
            go_roundg (min L 150 - (k + 1))
            case measure => have := HK.out.2.1; omega
            case rel => exact ⟨k + 1, R', by omega, rfl, by go_num, HM11.out, HTO.out.items.trans HK.out.2.2.1, HTO.out.asks.trans HK.out.2.2.2⟩)
    · have hke : k = min L 150 := by have := HK.out.1; omega
      by_cases hL2 : k < L
      · have t1 : (k : Int) < (L : Int) := by omega
        have t2 : ¬ (k : Int) < 150 := by omega
        clear hke
        go_wp2_with fail
        go_ret
        exact ⟨rfl, HM.out.below⟩
      · have t1 : ¬ (k : Int) < (L : Int) := by omega
        clear hke
        go_wp2_with fail
        go_ret
        exact ⟨rfl, HM.out.below⟩
end Go.Proofs.YthbjcihdlhkboaaGreatDoor
