/-
  DERIVED. GIVEN WITH THE SEED: THE CARDS: each row of YthbjcihdlhkboaaDoorRows.lean that lists a variable, with what it lists TIED to the program's text (the seventh form; the later family's looks); each row that meets fmt, with fmt's text TOLD by the authors' own Lean function (tested against real Go, not proved from fmt's source: count such statements apart). THE CARD IS WHAT COUNTS. Prove the row's statement (the work); the ties are given (YthbjcihdlhkboaaDoorTie.lean); close each card by the builder's one call (the guide's Derived/Test/ToyasCard.lean, 'card_holds'). Laid BY PROGRAM, IN A SANDBOX (cutbox-door.mjs). By AI agents, Wed Nov 11 2026. No macro, syntax, notation, axiom, sorry.
-/
import Derived.Test.YthbjcihdlhkboaaDoorRows
import GoSem.ClaimSeven
namespace Go.Proofs.YthbjcihdlhkboaaDoor
namespace Rows

/-- THE TIED CARD OF 'roostlaw16.RosterPair'. -/
def rosterPairCard : Claim7 := { stood := { row := rosterPairRow, standIns := [], harness := (true, "db5b5d2775afa7222a4ad4f05983d2473fa7c7e1d17db406324c584551aee731"), looks := true }, kinds := [], alts := [], laidByText := true, laidKinds := [.data, .pinned], laidTests := true, laidLooks := .later }
def RosterPairCardSaid : Prop := Claim7.holds Tryd.pinned (.plain (OpenSpec.ofChange rosterPairSpec)) rosterPairCard

/-- THE TIED CARD OF 'roostlaw17.PrivacyAll'. -/
def privacyAllCard : Claim7 := { stood := { row := privacyAllRow, standIns := [], harness := (true, "db5b5d2775afa7222a4ad4f05983d2473fa7c7e1d17db406324c584551aee731"), looks := true }, kinds := [], alts := [], laidByText := true, laidKinds := [.data, .pinned], laidTests := true, laidLooks := .later }
def PrivacyAllCardSaid : Prop := Claim7.holds Tryd.pinned (.plain (OpenSpec.ofChange privacyAllSpec)) privacyAllCard

/-- THE TIED CARD OF 'roostlaw17.PrivacyFront'. -/
def privacyFrontCard : Claim7 := { stood := { row := privacyFrontRow, standIns := [], harness := (true, "db5b5d2775afa7222a4ad4f05983d2473fa7c7e1d17db406324c584551aee731"), looks := true }, kinds := [], alts := [], laidByText := true, laidKinds := [.data, .pinned], laidTests := true, laidLooks := .later }
def PrivacyFrontCardSaid : Prop := Claim7.holds Tryd.pinned (.plain (OpenSpec.ofChange privacyFrontSpec)) privacyFrontCard

/-- THE TIED CARD OF 'roostlaw17.PrivacyWays'. -/
def privacyWaysCard : Claim7 := { stood := { row := privacyWaysRow, standIns := [], harness := (true, "db5b5d2775afa7222a4ad4f05983d2473fa7c7e1d17db406324c584551aee731"), looks := true }, kinds := [], alts := [], laidByText := true, laidKinds := [.data, .pinned], laidTests := true, laidLooks := .later }
def PrivacyWaysCardSaid : Prop := Claim7.holds Tryd.pinned (.plain (OpenSpec.ofChange privacyWaysSpec)) privacyWaysCard

/-- THE TIED CARD OF 'roostlaw17.PrivacyRules'. -/
def privacyRulesCard : Claim7 := { stood := { row := privacyRulesRow, standIns := [], harness := (true, "db5b5d2775afa7222a4ad4f05983d2473fa7c7e1d17db406324c584551aee731"), looks := true }, kinds := [], alts := [], laidByText := true, laidKinds := [.data, .pinned], laidTests := true, laidLooks := .later }
def PrivacyRulesCardSaid : Prop := Claim7.holds Tryd.pinned (.plain (OpenSpec.ofChange privacyRulesSpec)) privacyRulesCard

/-- THE SECOND FORM's CARD OF 'roostlaw16.RosterPair'. -/
def rosterPairUptoCard : Claim7 := { stood := { row := rosterPairUptoRow, standIns := [], harness := (true, "db5b5d2775afa7222a4ad4f05983d2473fa7c7e1d17db406324c584551aee731"), looks := true }, kinds := [], alts := [], laidByText := true, laidKinds := [.data, .pinned], laidTests := true, laidLooks := .later }
def RosterPairUptoCardSaid : Prop := Claim7.holds Tryd.pinned (.plain (OpenSpec.upto rosterPairSpec)) rosterPairUptoCard

/-- THE SECOND FORM's CARD OF 'roostlaw17.PrivacyAll'. -/
def privacyAllUptoCard : Claim7 := { stood := { row := privacyAllUptoRow, standIns := [], harness := (true, "db5b5d2775afa7222a4ad4f05983d2473fa7c7e1d17db406324c584551aee731"), looks := true }, kinds := [], alts := [], laidByText := true, laidKinds := [.data, .pinned], laidTests := true, laidLooks := .later }
def PrivacyAllUptoCardSaid : Prop := Claim7.holds Tryd.pinned (.plain (OpenSpec.upto privacyAllSpec)) privacyAllUptoCard

/-- THE SECOND FORM's CARD OF 'roostlaw17.PrivacyFront'. -/
def privacyFrontUptoCard : Claim7 := { stood := { row := privacyFrontUptoRow, standIns := [], harness := (true, "db5b5d2775afa7222a4ad4f05983d2473fa7c7e1d17db406324c584551aee731"), looks := true }, kinds := [], alts := [], laidByText := true, laidKinds := [.data, .pinned], laidTests := true, laidLooks := .later }
def PrivacyFrontUptoCardSaid : Prop := Claim7.holds Tryd.pinned (.plain (OpenSpec.upto privacyFrontSpec)) privacyFrontUptoCard

/-- THE SECOND FORM's CARD OF 'roostlaw17.PrivacyWays'. -/
def privacyWaysUptoCard : Claim7 := { stood := { row := privacyWaysUptoRow, standIns := [], harness := (true, "db5b5d2775afa7222a4ad4f05983d2473fa7c7e1d17db406324c584551aee731"), looks := true }, kinds := [], alts := [], laidByText := true, laidKinds := [.data, .pinned], laidTests := true, laidLooks := .later }
def PrivacyWaysUptoCardSaid : Prop := Claim7.holds Tryd.pinned (.plain (OpenSpec.upto privacyWaysSpec)) privacyWaysUptoCard

/-- THE SECOND FORM's CARD OF 'roostlaw17.PrivacyRules'. -/
def privacyRulesUptoCard : Claim7 := { stood := { row := privacyRulesUptoRow, standIns := [], harness := (true, "db5b5d2775afa7222a4ad4f05983d2473fa7c7e1d17db406324c584551aee731"), looks := true }, kinds := [], alts := [], laidByText := true, laidKinds := [.data, .pinned], laidTests := true, laidLooks := .later }
def PrivacyRulesUptoCardSaid : Prop := Claim7.holds Tryd.pinned (.plain (OpenSpec.upto privacyRulesSpec)) privacyRulesUptoCard
end Rows
end Go.Proofs.YthbjcihdlhkboaaDoor
