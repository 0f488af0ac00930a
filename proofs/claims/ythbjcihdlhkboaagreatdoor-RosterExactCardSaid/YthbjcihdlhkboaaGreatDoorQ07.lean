/- A map in memory as a datum over values: each element stands for itself. Over any program. -/
import Derived.Maps.OwnSet
import Derived.Below
namespace Go.Proofs.YthbjcihdlhkboaaGreatDoor
set_option linter.unusedSimpArgs false
set_option linter.unusedVariables false
open Go.RowKit Go.Maps

/-- An element reads as itself. -/
def tokR (v : Value) : Option (DataW Value × List MemPlace) := some (.held v, [])
theorem tokR_inv {v : Value} {d : DataW Value} {ps : List MemPlace} (h : tokR v = some (d, ps)) : d = .held v := by
  simp [tokR] at h
  exact h.1.symm

abbrev keyL (s : ByteArray) : Lit := .string s.data.toList

/-- What a map holds at a text. -/
def mget (D : DataW Value) (s : ByteArray) : Option Value :=
  match D.atKey (keyL s) .nil with
  | .held v => some v
  | _ => none

theorem keyL_inj {s t : ByteArray} (h : keyL s = keyL t) : s = t := by
  have h1 : s.data.toList = t.data.toList := by simpa [keyL] using h
  have h2 : s.data = t.data := Array.toList_inj.1 h1
  cases s; cases t; simp_all

theorem isKey_string (s : ByteArray) : WideAt.IsKeyLit (keyL s) := by
  first
    | exact trivial
    | simp [WideAt.IsKeyLit, keyL]

theorem mget_put_same {D : DataW Value} (hD : IsMap D) (s : ByteArray) (v : Value) : mget (D.put (keyL s) (.held v)) s = some v := by
  unfold mget
  rw [atKey_put_same hD (isKey_string s)]

theorem mget_put_other {D : DataW Value} {s t : ByteArray} (hne : t ≠ s) (v : Value) : mget (D.put (keyL s) (.held v)) t = mget D t := by
  unfold mget
  rw [atKey_put_other (fun e => hne (keyL_inj e))]

theorem mget_del_same {D : DataW Value} (s : ByteArray) : mget (D.del (keyL s)) s = none := by
  unfold mget
  rw [atKey_del_same]

theorem mget_del_other {D : DataW Value} {s t : ByteArray} (hne : t ≠ s) : mget (D.del (keyL s)) t = mget D t := by
  unfold mget
  rw [atKey_del_other (fun e => hne (keyL_inj e))]

theorem mget_empty (s : ByteArray) : mget (.map []) s = none := rfl

/-- Each key has an element that stands for itself. -/
def HasOk (D : DataW Value) : Prop := IsMap D ∧ ∀ s, Maps.has D (keyL s) = (mget D s).isSome

theorem HasOk.empty : HasOk (.map []) := ⟨isMap_empty, fun s => rfl⟩

theorem HasOk.put {D : DataW Value} (h : HasOk D) (s : ByteArray) (v : Value) : HasOk (D.put (keyL s) (.held v)) := by
  refine ⟨h.1.put _ _, fun t => ?_⟩
  by_cases e : t = s
  · subst e
    rw [mget_put_same h.1, has_put_same h.1 (isKey_string t)]
    rfl
  · rw [mget_put_other e, has_put_other (fun e' => e (keyL_inj e')), h.2]

theorem HasOk.del {D : DataW Value} (h : HasOk D) (s : ByteArray) : HasOk (D.del (keyL s)) := by
  refine ⟨h.1.del _, fun t => ?_⟩
  by_cases e : t = s
  · subst e
    rw [mget_del_same, has_del_same]
    rfl
  · rw [mget_del_other e, has_del_other (fun e' => e (keyL_inj e')), h.2]

theorem atKey_held {D : DataW Value} (h : HasOk D) (s : ByteArray) (z : Value) : D.atKey (keyL s) (.held z) = .held ((mget D s).getD z) := by
  obtain ⟨es, rfl⟩ := h.1
  have h2 := h.2 s
  unfold mget at *
  simp only [DataW.atKey, has_eq] at *
  cases hf : es.find? (fun p => p.1.sameKey (keyL s)) with
  | none => simp
  | some p =>
    rw [hf] at h2
    have ha : es.any (fun p => p.1.sameKey (keyL s)) = true := by
      rw [List.any_eq_true]
      exact ⟨p, List.mem_of_find?_eq_some hf, by have := List.find?_some hf; simpa using this⟩
    rw [ha] at h2
    cases hp : p.2 <;> simp [hp] at h2 ⊢

section
variable {P : Program} {k t e : TypeId} {w : World} {b n : Nat} {D : DataW Value}

theorem look_ok_eq (h : w.ownsMap P k tokR b n D) (hO : HasOk D) (hk : P.underlying k = some .string) (ht : P.underlying t = some (.map k e)) {z : Value} (hz : (zeroValue e).run P w = .ok z w)
    {s : ByteArray} (hs : s.size ≤ maxLen) : (Instr.lookup t (.map (some b)) (.string s) true).run P w = .ok (.tuple #[(mget D s).getD z, .bool (mget D s).isSome]) w := by
  obtain ⟨v, ps, hrun, hv⟩ := h.look_ok (string_keyed hk) ht hz (zd := .held z) (zp := []) rfl (WideMaps.keyOf_string_mk hk hs)
  rw [show (Lit.string s.data.toList) = keyL s from rfl, atKey_held hO] at hv
  have := tokR_inv hv
  simp only [DataW.held.injEq] at this
  rw [hrun, ← this]
  have h2 := hO.2 s
  rw [show (Lit.string s.data.toList) = keyL s from rfl, h2]

theorem look_eq (h : w.ownsMap P k tokR b n D) (hO : HasOk D) (hk : P.underlying k = some .string) (ht : P.underlying t = some (.map k e)) {z : Value} (hz : (zeroValue e).run P w = .ok z w)
    {s : ByteArray} (hs : s.size ≤ maxLen) : (Instr.lookup t (.map (some b)) (.string s) false).run P w = .ok ((mget D s).getD z) w := by
  obtain ⟨v, ps, hrun, hv⟩ := h.lookup (string_keyed hk) ht hz (zd := .held z) (zp := []) rfl (WideMaps.keyOf_string_mk hk hs)
  rw [show (Lit.string s.data.toList) = keyL s from rfl, atKey_held hO] at hv
  have := tokR_inv hv
  simp only [DataW.held.injEq] at this
  rw [hrun, ← this]
end

end Go.Proofs.YthbjcihdlhkboaaGreatDoor
