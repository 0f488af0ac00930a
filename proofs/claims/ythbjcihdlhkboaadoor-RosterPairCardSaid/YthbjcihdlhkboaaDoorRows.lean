/-
  NARROWER THAN 'FOR EVERY INPUT', by the rows' own cells (each row's printed sentence says how): RosterPair: laid · PrivacyAll: laid · PrivacyFront: laid · PrivacyWays: laid · PrivacyRules: laid.
  DERIVED. THE GIVEN ROWS OF THIS SEAT. 5 by the template 'for every input the law returns true; each argument reads behind the call as it read before'; 0 by the template 'total and deterministic' (their statements: YthbjcihdlhkboaaDoorTotals.lean).
  GIVEN WITH THE SEED: the statements are not yours to turn. If you find one false, say at which input.
  Laid BY PROGRAM, IN A SANDBOX (cutbox-rows.mjs): the forced cells as the released guide's own fill.sh prints them over the translation 4ae08838cdf6e324… (all of the seat's roots in one cut). By AI agents, Wed Nov 11 2026. No macro, syntax, notation, axiom, sorry.
-/
import Derived.Test.YthbjcihdlhkboaaDoorChecked
import GoSem.PinnedTables
import GoSem.Claim
import GoSem.ClaimJoined
import GoSem.ClaimMapViews
import Derived.JoinedTies
import Derived.KernelRfl
namespace Go.Proofs.YthbjcihdlhkboaaDoor
/- THE CELL 'sum', in the pinned program and in every row, IS THE sha256 OF THE DUMP (.gsa) THAT YthbjcihdlhkboaaDoorProg.lean LOADS. Nothing in Lean hashes anything: it is a label: what it is worth is what the hold of that sum in a sandbox is worth. -/
noncomputable def Tryd.pinned : Pinned := { name := "ythbjcihdlhkboaadoor", sum := "4ae08838cdf6e324c87f361681ea33fd0d1cd2a7006ee472f4f681e38a112b25", checked := Tryd.checked }
namespace Rows
def none {H : Type} : Left H := { results := [], args := [] }

/- WHAT THE LISTED PACKAGE-LEVEL VARIABLES READ AS WHEN THE CALL BEGINS. Each datum BY PROGRAM (the guide's laid-datum.mjs) off the statement by which the dump's own 'gosem.cut.vars' lays the variable. In a bare row this is a premise. The card (YthbjcihdlhkboaaDoorCards.lean) ties it to the program's text. -/
def laid_unicode_utf8_acceptRanges {H : Type} : DataW H := .agg [.agg [.lit (.int .u8 128), .lit (.int .u8 191)], .agg [.lit (.int .u8 160), .lit (.int .u8 191)], .agg [.lit (.int .u8 128), .lit (.int .u8 159)], .agg [.lit (.int .u8 144), .lit (.int .u8 191)], .agg [.lit (.int .u8 128), .lit (.int .u8 143)], .agg [.lit (.int .u8 0), .lit (.int .u8 0)], .agg [.lit (.int .u8 0), .lit (.int .u8 0)], .agg [.lit (.int .u8 0), .lit (.int .u8 0)], .agg [.lit (.int .u8 0), .lit (.int .u8 0)], .agg [.lit (.int .u8 0), .lit (.int .u8 0)], .agg [.lit (.int .u8 0), .lit (.int .u8 0)], .agg [.lit (.int .u8 0), .lit (.int .u8 0)], .agg [.lit (.int .u8 0), .lit (.int .u8 0)], .agg [.lit (.int .u8 0), .lit (.int .u8 0)], .agg [.lit (.int .u8 0), .lit (.int .u8 0)], .agg [.lit (.int .u8 0), .lit (.int .u8 0)]]
/-- One of Go's own tables, pinned by name: the form's constant. -/
def laid_unicode_utf8_first : DataW Unit := Go.Pinned.utf8First

/-- 'roostlaw16.RosterPair': WHATEVER THE INPUT: true; the input reads as it did. -/
def rosterPairSpec : ChangeSpec := { name := "rosterPair", fn := fun _ => fun
  | [d1, d2, d3] => { results := [.lit (.bool true)], args := [d1, d2, d3] }
  | _ => none }
def rosterPairRow : OpenClaim := { program := "ythbjcihdlhkboaadoor", sum := "4ae08838cdf6e324c87f361681ea33fd0d1cd2a7006ee472f4f681e38a112b25", func := "roost/roostlaw16.RosterPair", spec := "rosterPair", inPlace := ["internal/abi.NoEscape", "internal/bytealg.MakeNoZero"], unfollowed := true, recurses := true, named := ["unicode/utf8.first", "unicode/utf8.acceptRanges"], apart := false, laid := [("unicode/utf8.acceptRanges", laid_unicode_utf8_acceptRanges), ("unicode/utf8.first", laid_unicode_utf8_first)] }
def RosterPairSaid : Prop := rosterPairRow.holds Tryd.pinned (OpenSpec.ofChange rosterPairSpec)

/-- ITS FALSE NEIGHBOUR: 'it returns false'. Refute it at one input. -/
def rosterPairWrong : ChangeSpec := { name := "rosterPair", fn := fun _ => fun
  | [d1, d2, d3] => { results := [.lit (.bool false)], args := [d1, d2, d3] }
  | _ => none }
def RosterPairWrongFalsely : Prop := rosterPairRow.holds Tryd.pinned (OpenSpec.ofChange rosterPairWrong)

/-- 'roostlaw17.PrivacyAll': WHATEVER THE INPUT: true; the input reads as it did. -/
def privacyAllSpec : ChangeSpec := { name := "privacyAll", fn := fun _ => fun
  | [d1, d2, d3] => { results := [.lit (.bool true)], args := [d1, d2, d3] }
  | _ => none }
def privacyAllRow : OpenClaim := { program := "ythbjcihdlhkboaadoor", sum := "4ae08838cdf6e324c87f361681ea33fd0d1cd2a7006ee472f4f681e38a112b25", func := "roost/roostlaw17.PrivacyAll", spec := "privacyAll", inPlace := ["internal/bytealg.IndexByteString", "internal/bytealg.IndexString", "internal/abi.NoEscape", "internal/bytealg.MakeNoZero"], unfollowed := true, recurses := true, named := ["unicode/utf8.first", "unicode/utf8.acceptRanges", "internal/bytealg.MaxLen"], apart := false, laid := [("unicode/utf8.acceptRanges", laid_unicode_utf8_acceptRanges), ("unicode/utf8.first", laid_unicode_utf8_first)] }
def PrivacyAllSaid : Prop := privacyAllRow.holds Tryd.pinned (OpenSpec.ofChange privacyAllSpec)

/-- ITS FALSE NEIGHBOUR: 'it returns false'. Refute it at one input. -/
def privacyAllWrong : ChangeSpec := { name := "privacyAll", fn := fun _ => fun
  | [d1, d2, d3] => { results := [.lit (.bool false)], args := [d1, d2, d3] }
  | _ => none }
def PrivacyAllWrongFalsely : Prop := privacyAllRow.holds Tryd.pinned (OpenSpec.ofChange privacyAllWrong)

/-- 'roostlaw17.PrivacyFront': WHATEVER THE INPUT: true; the input reads as it did. -/
def privacyFrontSpec : ChangeSpec := { name := "privacyFront", fn := fun _ => fun
  | [d] => { results := [.lit (.bool true)], args := [d] }
  | _ => none }
def privacyFrontRow : OpenClaim := { program := "ythbjcihdlhkboaadoor", sum := "4ae08838cdf6e324c87f361681ea33fd0d1cd2a7006ee472f4f681e38a112b25", func := "roost/roostlaw17.PrivacyFront", spec := "privacyFront", inPlace := ["internal/bytealg.IndexByteString", "internal/bytealg.IndexString", "internal/abi.NoEscape", "internal/bytealg.MakeNoZero"], unfollowed := true, recurses := true, named := ["unicode/utf8.first", "unicode/utf8.acceptRanges", "internal/bytealg.MaxLen"], apart := false, laid := [("unicode/utf8.acceptRanges", laid_unicode_utf8_acceptRanges), ("unicode/utf8.first", laid_unicode_utf8_first)] }
def PrivacyFrontSaid : Prop := privacyFrontRow.holds Tryd.pinned (OpenSpec.ofChange privacyFrontSpec)

/-- ITS FALSE NEIGHBOUR: 'it returns false'. Refute it at one input. -/
def privacyFrontWrong : ChangeSpec := { name := "privacyFront", fn := fun _ => fun
  | [d] => { results := [.lit (.bool false)], args := [d] }
  | _ => none }
def PrivacyFrontWrongFalsely : Prop := privacyFrontRow.holds Tryd.pinned (OpenSpec.ofChange privacyFrontWrong)

/-- 'roostlaw17.PrivacyWays': WHATEVER THE INPUT: true; the input reads as it did. -/
def privacyWaysSpec : ChangeSpec := { name := "privacyWays", fn := fun _ => fun
  | [d1, d2, d3] => { results := [.lit (.bool true)], args := [d1, d2, d3] }
  | _ => none }
def privacyWaysRow : OpenClaim := { program := "ythbjcihdlhkboaadoor", sum := "4ae08838cdf6e324c87f361681ea33fd0d1cd2a7006ee472f4f681e38a112b25", func := "roost/roostlaw17.PrivacyWays", spec := "privacyWays", inPlace := ["internal/bytealg.IndexByteString", "internal/bytealg.IndexString", "internal/abi.NoEscape", "internal/bytealg.MakeNoZero"], unfollowed := true, recurses := true, named := ["unicode/utf8.first", "unicode/utf8.acceptRanges", "internal/bytealg.MaxLen"], apart := false, laid := [("unicode/utf8.acceptRanges", laid_unicode_utf8_acceptRanges), ("unicode/utf8.first", laid_unicode_utf8_first)] }
def PrivacyWaysSaid : Prop := privacyWaysRow.holds Tryd.pinned (OpenSpec.ofChange privacyWaysSpec)

/-- ITS FALSE NEIGHBOUR: 'it returns false'. Refute it at one input. -/
def privacyWaysWrong : ChangeSpec := { name := "privacyWays", fn := fun _ => fun
  | [d1, d2, d3] => { results := [.lit (.bool false)], args := [d1, d2, d3] }
  | _ => none }
def PrivacyWaysWrongFalsely : Prop := privacyWaysRow.holds Tryd.pinned (OpenSpec.ofChange privacyWaysWrong)

/-- 'roostlaw17.PrivacyRules': WHATEVER THE INPUT: true; the input reads as it did. -/
def privacyRulesSpec : ChangeSpec := { name := "privacyRules", fn := fun _ => fun
  | [d1, d2] => { results := [.lit (.bool true)], args := [d1, d2] }
  | _ => none }
def privacyRulesRow : OpenClaim := { program := "ythbjcihdlhkboaadoor", sum := "4ae08838cdf6e324c87f361681ea33fd0d1cd2a7006ee472f4f681e38a112b25", func := "roost/roostlaw17.PrivacyRules", spec := "privacyRules", inPlace := ["internal/bytealg.IndexByteString", "internal/bytealg.IndexString", "internal/abi.NoEscape", "internal/bytealg.MakeNoZero"], unfollowed := true, recurses := true, named := ["internal/bytealg.MaxLen", "unicode/utf8.first", "unicode/utf8.acceptRanges"], apart := false, laid := [("unicode/utf8.acceptRanges", laid_unicode_utf8_acceptRanges), ("unicode/utf8.first", laid_unicode_utf8_first)] }
def PrivacyRulesSaid : Prop := privacyRulesRow.holds Tryd.pinned (OpenSpec.ofChange privacyRulesSpec)

/-- ITS FALSE NEIGHBOUR: 'it returns false'. Refute it at one input. -/
def privacyRulesWrong : ChangeSpec := { name := "privacyRules", fn := fun _ => fun
  | [d1, d2] => { results := [.lit (.bool false)], args := [d1, d2] }
  | _ => none }
def PrivacyRulesWrongFalsely : Prop := privacyRulesRow.holds Tryd.pinned (OpenSpec.ofChange privacyRulesWrong)

/- THE SECOND FORM. 'bulk': how many values and letters a reading holds, each counted each time it is reached (what is shared counts as often as it is met; a slice's spare places count too). A statement '..UptoSaid' is the law's where the arguments, and the package variables that the reading takes, are together of bulk at most 1048576: NARROWER than '..Said'. Prove '..Said' where nothing that the law and all that it calls make is longer than what came in: it says more and counts as full. Else prove '..UptoSaid'. A law counts once. -/
mutual
def uptoBulk {H : Type} : DataW H → Nat
  | .lit (.string bytes) => bytes.length + 1
  | .lit _ => 1
  | .nil => 1
  | .ptr d => uptoBulk d + 1
  | .slice elems spare => uptoBulkAll elems + uptoBulkAll spare + 1
  | .agg parts => uptoBulkAll parts + 1
  | .iface _ d => uptoBulk d + 1
  | .map entries => uptoBulkEntries entries + 1
  | .held _ => 1
def uptoBulkAll {H : Type} : List (DataW H) → Nat
  | [] => 0
  | d :: r => uptoBulk d + uptoBulkAll r
def uptoBulkEntries {H : Type} : List (Lit × DataW H) → Nat
  | [] => 0
  | x :: r => uptoBulkEntry x + uptoBulkEntries r
def uptoBulkEntry {H : Type} : Lit × DataW H → Nat
  | (.string bytes, d) => bytes.length + uptoBulk d + 1
  | (_, d) => uptoBulk d + 1
 end
def uptoSmall : (H : Type) → List (DataW H) → Bool := fun _ ds => decide (uptoBulkAll ds ≤ 1048576)
def OpenSpec.upto (s : _root_.Go.ChangeSpec) : _root_.Go.OpenSpec := { _root_.Go.OpenSpec.ofChange s with cond := some uptoSmall }

/-- 'roostlaw16.RosterPair', WHERE WHAT IT READS IS OF BULK AT MOST 1048576: true; the input reads as it did. -/
def rosterPairUptoRow : OpenClaim := { program := "ythbjcihdlhkboaadoor", sum := "4ae08838cdf6e324c87f361681ea33fd0d1cd2a7006ee472f4f681e38a112b25", func := "roost/roostlaw16.RosterPair", spec := "rosterPair", inPlace := ["internal/abi.NoEscape", "internal/bytealg.MakeNoZero"], unfollowed := true, recurses := true, named := ["unicode/utf8.first", "unicode/utf8.acceptRanges"], apart := false, laid := [("unicode/utf8.acceptRanges", laid_unicode_utf8_acceptRanges), ("unicode/utf8.first", laid_unicode_utf8_first)], narrowed := true }
def RosterPairUptoSaid : Prop := rosterPairUptoRow.holds Tryd.pinned (OpenSpec.upto rosterPairSpec)

/-- 'roostlaw17.PrivacyAll', WHERE WHAT IT READS IS OF BULK AT MOST 1048576: true; the input reads as it did. -/
def privacyAllUptoRow : OpenClaim := { program := "ythbjcihdlhkboaadoor", sum := "4ae08838cdf6e324c87f361681ea33fd0d1cd2a7006ee472f4f681e38a112b25", func := "roost/roostlaw17.PrivacyAll", spec := "privacyAll", inPlace := ["internal/bytealg.IndexByteString", "internal/bytealg.IndexString", "internal/abi.NoEscape", "internal/bytealg.MakeNoZero"], unfollowed := true, recurses := true, named := ["unicode/utf8.first", "unicode/utf8.acceptRanges", "internal/bytealg.MaxLen"], apart := false, laid := [("unicode/utf8.acceptRanges", laid_unicode_utf8_acceptRanges), ("unicode/utf8.first", laid_unicode_utf8_first)], narrowed := true }
def PrivacyAllUptoSaid : Prop := privacyAllUptoRow.holds Tryd.pinned (OpenSpec.upto privacyAllSpec)

/-- 'roostlaw17.PrivacyFront', WHERE WHAT IT READS IS OF BULK AT MOST 1048576: true; the input reads as it did. -/
def privacyFrontUptoRow : OpenClaim := { program := "ythbjcihdlhkboaadoor", sum := "4ae08838cdf6e324c87f361681ea33fd0d1cd2a7006ee472f4f681e38a112b25", func := "roost/roostlaw17.PrivacyFront", spec := "privacyFront", inPlace := ["internal/bytealg.IndexByteString", "internal/bytealg.IndexString", "internal/abi.NoEscape", "internal/bytealg.MakeNoZero"], unfollowed := true, recurses := true, named := ["unicode/utf8.first", "unicode/utf8.acceptRanges", "internal/bytealg.MaxLen"], apart := false, laid := [("unicode/utf8.acceptRanges", laid_unicode_utf8_acceptRanges), ("unicode/utf8.first", laid_unicode_utf8_first)], narrowed := true }
def PrivacyFrontUptoSaid : Prop := privacyFrontUptoRow.holds Tryd.pinned (OpenSpec.upto privacyFrontSpec)

/-- 'roostlaw17.PrivacyWays', WHERE WHAT IT READS IS OF BULK AT MOST 1048576: true; the input reads as it did. -/
def privacyWaysUptoRow : OpenClaim := { program := "ythbjcihdlhkboaadoor", sum := "4ae08838cdf6e324c87f361681ea33fd0d1cd2a7006ee472f4f681e38a112b25", func := "roost/roostlaw17.PrivacyWays", spec := "privacyWays", inPlace := ["internal/bytealg.IndexByteString", "internal/bytealg.IndexString", "internal/abi.NoEscape", "internal/bytealg.MakeNoZero"], unfollowed := true, recurses := true, named := ["unicode/utf8.first", "unicode/utf8.acceptRanges", "internal/bytealg.MaxLen"], apart := false, laid := [("unicode/utf8.acceptRanges", laid_unicode_utf8_acceptRanges), ("unicode/utf8.first", laid_unicode_utf8_first)], narrowed := true }
def PrivacyWaysUptoSaid : Prop := privacyWaysUptoRow.holds Tryd.pinned (OpenSpec.upto privacyWaysSpec)

/-- 'roostlaw17.PrivacyRules', WHERE WHAT IT READS IS OF BULK AT MOST 1048576: true; the input reads as it did. -/
def privacyRulesUptoRow : OpenClaim := { program := "ythbjcihdlhkboaadoor", sum := "4ae08838cdf6e324c87f361681ea33fd0d1cd2a7006ee472f4f681e38a112b25", func := "roost/roostlaw17.PrivacyRules", spec := "privacyRules", inPlace := ["internal/bytealg.IndexByteString", "internal/bytealg.IndexString", "internal/abi.NoEscape", "internal/bytealg.MakeNoZero"], unfollowed := true, recurses := true, named := ["internal/bytealg.MaxLen", "unicode/utf8.first", "unicode/utf8.acceptRanges"], apart := false, laid := [("unicode/utf8.acceptRanges", laid_unicode_utf8_acceptRanges), ("unicode/utf8.first", laid_unicode_utf8_first)], narrowed := true }
def PrivacyRulesUptoSaid : Prop := privacyRulesUptoRow.holds Tryd.pinned (OpenSpec.upto privacyRulesSpec)

end Rows
end Go.Proofs.YthbjcihdlhkboaaDoor
