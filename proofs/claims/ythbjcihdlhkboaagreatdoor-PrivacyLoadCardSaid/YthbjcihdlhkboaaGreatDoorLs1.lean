/- A user's privacy lists in memory; New and Has. -/
import Derived.Test.YthbjcihdlhkboaaGreatDoorPv3
import Derived.Test.YthbjcihdlhkboaaGreatDoorNm3
import Derived.Test.YthbjcihdlhkboaaGreatDoorMapV
import Derived.Test.YthbjcihdlhkboaaGreatDoorSeq
namespace Go.Proofs.YthbjcihdlhkboaaGreatDoor
set_option linter.unusedSimpArgs false
set_option linter.unusedVariables false
open Go.RowKit Go.Maps

structure LS where
  most : Int
  rules : Int
  chosen : ByteArray
  items : List (ByteArray × List Rule)

def LS.get (L : LS) (s : ByteArray) : Option (List Rule) := (L.items.find? (fun p => decide (p.1 = s))).map (·.2)
def LS.put (L : LS) (s : ByteArray) (rs : List Rule) : LS := { L with items := (s, rs) :: L.items.filter (fun p => !decide (p.1 = s)) }
def LS.del (L : LS) (s : ByteArray) : LS := { L with items := L.items.filter (fun p => !decide (p.1 = s)) }

def flatR (rs : List Rule) : List Value := rs.flatMap fun r => [.bool r.allow, .bool r.inn, .bool r.out, .string r.by_, .string r.value]
theorem flatR_length (rs : List Rule) : (flatR rs).length = rs.length * 5 := by
  induction rs with
  | nil => rfl
  | cons r rs ih => simp [flatR] at *; omega
theorem flatR_append (rs qs : List Rule) : flatR (rs ++ qs) = flatR rs ++ flatR qs := by simp [flatR]

theorem grown_of_below {w w' : World} {row : Option Nat} (hb : Below w.heap.size w w') : w.grownBy w' row := ⟨hb.os, hb.tape, hb.output, hb.size, fun k hk _ => hb.block k hk⟩

/-- The lists as they lie in memory. -/
structure LAt (w : World) (B lb mb n : Nat) (D : DataW Value) (L : LS) : Prop where
  cells : w.heap[lb]? = some (.cells #[.int .i64 L.most, .int .i64 L.rules, .string L.chosen, .map (some mb)] 95)
  own : w.ownsMap Tryz.prog 9 tokR mb n D
  ok : HasOk D
  size : Maps.size D = L.items.length
  lists : ∀ s, (mget D s = none ∧ L.get s = none) ∨ ∃ v rs, mget D s = some v ∧ L.get s = some rs ∧ Seq w B 138 5 v rs.length (flatR rs)
  lo : B ≤ lb ∧ B ≤ mb
  small : ∀ p ∈ L.items, ∀ r ∈ p.2, r.value.size ≤ 4294967296
  chose : L.chosen.size ≤ maxLen
  apart : (L.items.map (·.1)).Nodup

theorem LAt.isSome {w : World} {B lb mb n : Nat} {D : DataW Value} {L : LS} (h : LAt w B lb mb n D L) (s : ByteArray) : (mget D s).isSome = (L.get s).isSome := by
  rcases h.lists s with ⟨a, b⟩ | ⟨v, rs, a, b, _⟩ <;> rw [a, b] <;> rfl

theorem LAt.below {w w' : World} {B lb mb n : Nat} {D : DataW Value} {L : LS} (h : LAt w B lb mb n D L) (hb : Below w.heap.size w w') : LAt w' B lb mb n D L where
  cells := blk_below h.cells hb (blk_lt h.cells)
  own := h.own.kept (row := none) (grown_of_below hb) (by simp)
  ok := h.ok
  size := h.size
  lists := fun s => by
    rcases h.lists s with hn | ⟨v, rs, a, b, c⟩
    · exact .inl hn
    · exact .inr ⟨v, rs, a, b, c.below hb (fun k hk => (c.lt k hk).2)⟩
  lo := h.lo
  small := h.small
  chose := h.chose
  apart := h.apart

theorem LS.get_mem {L : LS} {s : ByteArray} {rs : List Rule} (h : L.get s = some rs) : ∃ p ∈ L.items, p.2 = rs := by
  unfold LS.get at h
  cases hf : L.items.find? (fun p => decide (p.1 = s)) with
  | none => rw [hf] at h; cases h
  | some p => rw [hf] at h; simp at h; exact ⟨p, List.mem_of_find?_eq_some hf, h⟩

theorem flatR_get : ∀ (rs : List Rule) (k : Nat) (r : Rule), rs[k]? = some r → (flatR rs)[k * 5]? = some (.bool r.allow) ∧ (flatR rs)[k * 5 + 1]? = some (.bool r.inn) ∧ (flatR rs)[k * 5 + 2]? = some (.bool r.out) ∧ (flatR rs)[k * 5 + 3]? = some (.string r.by_) ∧ (flatR rs)[k * 5 + 4]? = some (.string r.value)
  | [], k, r, h => by simp at h
  | q :: qs, 0, r, h => by
    simp at h
    subst h
    simp [flatR]
  | q :: qs, k + 1, r, h => by
    have ih := flatR_get qs k r (by simpa using h)
    have e : flatR (q :: qs) = [.bool q.allow, .bool q.inn, .bool q.out, .string q.by_, .string q.value] ++ flatR qs := rfl
    have e2 : ∀ j, (flatR (q :: qs))[(k + 1) * 5 + j]? = (flatR qs)[k * 5 + j]? := by
      intro j
      rw [e, List.getElem?_append_right (by simp; omega)]
      congr 1
      simp
      omega
    have h0 := e2 0
    simp only [Nat.add_zero] at h0
    rw [h0, e2 1, e2 2, e2 3, e2 4]
    exact ih

theorem ptrZero (w : World) : (zeroValue 107).run Tryz.prog w = .ok (.slice none 0 0) w := by kernel_rfl

set_option maxHeartbeats 1000000 in
theorem has_any {w : World} {B lb mb n : Nat} {D : DataW Value} {L : LS} (h : LAt w B lb mb n D L) (s : ByteArray) (hs : s.size ≤ maxLen) :
    Calls Tryz.prog 50 #[.pointer (some ⟨lb, 0, none⟩), .string s] w fun e w' => e = .returned (.bool (L.get s).isSome) ∧ Below w.heap.size w w' := by
  have c0 : w.cell? ⟨lb, 0, none⟩ = some (.int .i64 L.most) := blk_cell h.cells 0
  have c3 : w.cell? ⟨lb, 3, none⟩ = some (.map (some mb)) := blk_cell h.cells 3
  have hl := look_ok_eq h.own h.ok Tryz.underlying9 Tryz.underlying93 (ptrZero w) hs
  rw [h.isSome] at hl
  clear h
  go_enter Tryz.func50, Tryz.ntmps50
  go_wp2_with fail
  go_ret
  exact ⟨rfl, Below.refl _ _⟩

set_option maxHeartbeats 1000000 in
theorem new_any (most rules : Int) (h0 : 0 ≤ most) (h1 : most ≤ 1000) (h2 : 0 ≤ rules) (h3 : rules ≤ 1000) (w : World) :
    Calls Tryz.prog 10 #[.int .i64 most, .int .i64 rules] w fun e w' => e = .returned (.tuple #[.pointer (some ⟨w.heap.size + 1, 0, none⟩), .int .i64 0]) ∧ Below w.heap.size w w' ∧
      LAt w' w.heap.size (w.heap.size + 1) w.heap.size 0 (.map []) ⟨most, rules, ⟨#[]⟩, []⟩ := by
  have hmm := @run_makeMap Tryz.prog
  have b0 : decide (most < 0) = false := by simp; omega
  have b1 : decide (1000 < most) = false := by simp; omega
  have b2 : decide (rules < 0) = false := by simp; omega
  have b3 : decide (1000 < rules) = false := by simp; omega
  go_enter Tryz.func10, Tryz.ntmps10
  go_wp2_with fail
  go_ret2
  refine ⟨rfl, ((Below.refl _ _).alloc (Nat.le_refl _) _).alloc (by simp) _, ?_⟩
  exact { cells := blk_new' _ (by simp), own := (World.ownsMap_made _ _ _ _).alloc _, ok := HasOk.empty, size := rfl, lists := fun s => .inl ⟨mget_empty s, rfl⟩, lo := ⟨by omega, Nat.le_refl _⟩, small := fun p hp => absurd hp (by simp), chose := Nat.zero_le _, apart := List.nodup_nil }

end Go.Proofs.YthbjcihdlhkboaaGreatDoor
