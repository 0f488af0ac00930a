/- What the readers answer at the texts of 'wakes'. -/
import Derived.Test.YthbjcihdlhkboaaGreatDoorLs5
namespace Go.Proofs.YthbjcihdlhkboaaGreatDoor
set_option linter.unusedSimpArgs false
set_option linter.unusedVariables false
open Go.RowKit Go.Maps Go.Shelf Go.Lib

abbrev denyBob : ByteArray := ⟨#[100, 101, 110, 121, 32, 105, 110, 32, 106, 105, 100, 32, 66, 111, 98]⟩
abbrev allowAll : ByteArray := ⟨#[97, 108, 108, 111, 119, 32, 105, 110, 32, 97, 108, 108]⟩
abbrev nameA : ByteArray := ⟨#[97]⟩
abbrev nameB : ByteArray := ⟨#[98]⟩
abbrev bob : ByteArray := ⟨#[98, 111, 98]⟩
abbrev cyd : ByteArray := ⟨#[99, 121, 100]⟩
abbrev denyR : Rule := ⟨false, true, false, ⟨#[106, 105, 100]⟩, bob⟩
abbrev allowR : Rule := ⟨true, true, false, ⟨#[97, 108, 108]⟩, ⟨#[]⟩⟩

theorem parse_allowAll : parseF allowAll = .ok allowR := by kernel_rfl
theorem parse_denyBob : parseF denyBob = .ok denyR := by kernel_rfl
theorem word_a : wordE nameA (validB nameA) = 0 := by kernel_rfl
end Go.Proofs.YthbjcihdlhkboaaGreatDoor
