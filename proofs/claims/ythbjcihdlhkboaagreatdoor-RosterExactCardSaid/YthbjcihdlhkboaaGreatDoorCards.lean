/-
  DERIVED. GIVEN WITH THE SEED: THE CARDS: each row of YthbjcihdlhkboaaGreatDoorRows.lean that lists a variable, with what it lists TIED to the program's text (the seventh form; the later family's looks); each row that meets fmt, with fmt's text TOLD by the authors' own Lean function (tested against real Go, not proved from fmt's source: count such statements apart). THE CARD IS WHAT COUNTS. Prove the row's statement (the work); the ties are given (YthbjcihdlhkboaaGreatDoorTie.lean); close each card by the builder's one call (the guide's Derived/Test/ToyasCard.lean, 'card_holds'). Laid BY PROGRAM, IN A SANDBOX (cutbox-door.mjs). By AI agents, Wed Nov 11 2026. No macro, syntax, notation, axiom, sorry.
-/
import Derived.Test.YthbjcihdlhkboaaGreatDoorRows
import GoSem.ClaimSeven
namespace Go.Proofs.YthbjcihdlhkboaaGreatDoor
namespace Rows

/-- THE TIED CARD OF 'roostlaw17.PrivacyExact'. -/
def privacyExactCard : Claim7 := { stood := { row := privacyExactRow, standIns := [], harness := (true, "c44359c1ebedc616dc5b2b5a8e88dac0f5b6d47266708ae989aeef21589dab81"), looks := true }, kinds := [], alts := [], laidByText := true, laidKinds := [.data, .pinned], laidTests := true, laidLooks := .later }
def PrivacyExactCardSaid : Prop := Claim7.holds Tryz.pinned (.plain (OpenSpec.ofChange privacyExactSpec)) privacyExactCard

/-- THE TIED CARD OF 'roostlaw16.RosterBounds'. -/
def rosterBoundsCard : Claim7 := { stood := { row := rosterBoundsRow, standIns := [], harness := (true, "c44359c1ebedc616dc5b2b5a8e88dac0f5b6d47266708ae989aeef21589dab81"), looks := true }, kinds := [], alts := [], laidByText := true, laidKinds := [.data, .pinned], laidTests := true, laidLooks := .later }
def RosterBoundsCardSaid : Prop := Claim7.holds Tryz.pinned (.plain (OpenSpec.ofChange rosterBoundsSpec)) rosterBoundsCard

/-- THE TIED CARD OF 'roostlaw16.RosterExact'. -/
def rosterExactCard : Claim7 := { stood := { row := rosterExactRow, standIns := [], harness := (true, "c44359c1ebedc616dc5b2b5a8e88dac0f5b6d47266708ae989aeef21589dab81"), looks := true }, kinds := [], alts := [], laidByText := true, laidKinds := [.data, .pinned], laidTests := true, laidLooks := .later }
def RosterExactCardSaid : Prop := Claim7.holds Tryz.pinned (.plain (OpenSpec.ofChange rosterExactSpec)) rosterExactCard

/-- THE TIED CARD OF 'roostlaw17.PrivacyLoad'. -/
def privacyLoadCard : Claim7 := { stood := { row := privacyLoadRow, standIns := [], harness := (true, "c44359c1ebedc616dc5b2b5a8e88dac0f5b6d47266708ae989aeef21589dab81"), looks := true }, kinds := [], alts := [], laidByText := true, laidKinds := [.data, .pinned], laidTests := true, laidLooks := .later }
def PrivacyLoadCardSaid : Prop := Claim7.holds Tryz.pinned (.plain (OpenSpec.ofChange privacyLoadSpec)) privacyLoadCard

/-- THE TIED CARD OF 'roostlaw17.PrivacyOwn'. -/
def privacyOwnCard : Claim7 := { stood := { row := privacyOwnRow, standIns := [], harness := (true, "c44359c1ebedc616dc5b2b5a8e88dac0f5b6d47266708ae989aeef21589dab81"), looks := true }, kinds := [], alts := [], laidByText := true, laidKinds := [.data, .pinned], laidTests := true, laidLooks := .later }
def PrivacyOwnCardSaid : Prop := Claim7.holds Tryz.pinned (.plain (OpenSpec.ofChange privacyOwnSpec)) privacyOwnCard

/-- THE TIED CARD OF 'roostlaw16.RosterOwn'. -/
def rosterOwnCard : Claim7 := { stood := { row := rosterOwnRow, standIns := [], harness := (true, "c44359c1ebedc616dc5b2b5a8e88dac0f5b6d47266708ae989aeef21589dab81"), looks := true }, kinds := [], alts := [], laidByText := true, laidKinds := [.data, .pinned], laidTests := true, laidLooks := .later }
def RosterOwnCardSaid : Prop := Claim7.holds Tryz.pinned (.plain (OpenSpec.ofChange rosterOwnSpec)) rosterOwnCard

/-- THE TIED CARD OF 'roostlaw16.RosterLoad'. -/
def rosterLoadCard : Claim7 := { stood := { row := rosterLoadRow, standIns := [], harness := (true, "c44359c1ebedc616dc5b2b5a8e88dac0f5b6d47266708ae989aeef21589dab81"), looks := true }, kinds := [], alts := [], laidByText := true, laidKinds := [.data, .pinned], laidTests := true, laidLooks := .later }
def RosterLoadCardSaid : Prop := Claim7.holds Tryz.pinned (.plain (OpenSpec.ofChange rosterLoadSpec)) rosterLoadCard

/-- THE SECOND FORM's CARD OF 'roostlaw17.PrivacyExact'. -/
def privacyExactUptoCard : Claim7 := { stood := { row := privacyExactUptoRow, standIns := [], harness := (true, "c44359c1ebedc616dc5b2b5a8e88dac0f5b6d47266708ae989aeef21589dab81"), looks := true }, kinds := [], alts := [], laidByText := true, laidKinds := [.data, .pinned], laidTests := true, laidLooks := .later }
def PrivacyExactUptoCardSaid : Prop := Claim7.holds Tryz.pinned (.plain (OpenSpec.upto privacyExactSpec)) privacyExactUptoCard

/-- THE SECOND FORM's CARD OF 'roostlaw16.RosterBounds'. -/
def rosterBoundsUptoCard : Claim7 := { stood := { row := rosterBoundsUptoRow, standIns := [], harness := (true, "c44359c1ebedc616dc5b2b5a8e88dac0f5b6d47266708ae989aeef21589dab81"), looks := true }, kinds := [], alts := [], laidByText := true, laidKinds := [.data, .pinned], laidTests := true, laidLooks := .later }
def RosterBoundsUptoCardSaid : Prop := Claim7.holds Tryz.pinned (.plain (OpenSpec.upto rosterBoundsSpec)) rosterBoundsUptoCard

/-- THE SECOND FORM's CARD OF 'roostlaw16.RosterExact'. -/
def rosterExactUptoCard : Claim7 := { stood := { row := rosterExactUptoRow, standIns := [], harness := (true, "c44359c1ebedc616dc5b2b5a8e88dac0f5b6d47266708ae989aeef21589dab81"), looks := true }, kinds := [], alts := [], laidByText := true, laidKinds := [.data, .pinned], laidTests := true, laidLooks := .later }
def RosterExactUptoCardSaid : Prop := Claim7.holds Tryz.pinned (.plain (OpenSpec.upto rosterExactSpec)) rosterExactUptoCard

/-- THE SECOND FORM's CARD OF 'roostlaw17.PrivacyLoad'. -/
def privacyLoadUptoCard : Claim7 := { stood := { row := privacyLoadUptoRow, standIns := [], harness := (true, "c44359c1ebedc616dc5b2b5a8e88dac0f5b6d47266708ae989aeef21589dab81"), looks := true }, kinds := [], alts := [], laidByText := true, laidKinds := [.data, .pinned], laidTests := true, laidLooks := .later }
def PrivacyLoadUptoCardSaid : Prop := Claim7.holds Tryz.pinned (.plain (OpenSpec.upto privacyLoadSpec)) privacyLoadUptoCard

/-- THE SECOND FORM's CARD OF 'roostlaw17.PrivacyOwn'. -/
def privacyOwnUptoCard : Claim7 := { stood := { row := privacyOwnUptoRow, standIns := [], harness := (true, "c44359c1ebedc616dc5b2b5a8e88dac0f5b6d47266708ae989aeef21589dab81"), looks := true }, kinds := [], alts := [], laidByText := true, laidKinds := [.data, .pinned], laidTests := true, laidLooks := .later }
def PrivacyOwnUptoCardSaid : Prop := Claim7.holds Tryz.pinned (.plain (OpenSpec.upto privacyOwnSpec)) privacyOwnUptoCard

/-- THE SECOND FORM's CARD OF 'roostlaw16.RosterOwn'. -/
def rosterOwnUptoCard : Claim7 := { stood := { row := rosterOwnUptoRow, standIns := [], harness := (true, "c44359c1ebedc616dc5b2b5a8e88dac0f5b6d47266708ae989aeef21589dab81"), looks := true }, kinds := [], alts := [], laidByText := true, laidKinds := [.data, .pinned], laidTests := true, laidLooks := .later }
def RosterOwnUptoCardSaid : Prop := Claim7.holds Tryz.pinned (.plain (OpenSpec.upto rosterOwnSpec)) rosterOwnUptoCard

/-- THE SECOND FORM's CARD OF 'roostlaw16.RosterLoad'. -/
def rosterLoadUptoCard : Claim7 := { stood := { row := rosterLoadUptoRow, standIns := [], harness := (true, "c44359c1ebedc616dc5b2b5a8e88dac0f5b6d47266708ae989aeef21589dab81"), looks := true }, kinds := [], alts := [], laidByText := true, laidKinds := [.data, .pinned], laidTests := true, laidLooks := .later }
def RosterLoadUptoCardSaid : Prop := Claim7.holds Tryz.pinned (.plain (OpenSpec.upto rosterLoadSpec)) rosterLoadUptoCard
end Rows
end Go.Proofs.YthbjcihdlhkboaaGreatDoor
