/-
  NARROWER THAN 'FOR EVERY INPUT', by the rows' own cells (each row's printed sentence says how): PrivacyExact: laid · RosterBounds: laid · RosterExact: laid · PrivacyLoad: laid · PrivacyOwn: laid · RosterOwn: laid · RosterLoad: laid.
  DERIVED. THE GIVEN ROWS OF THIS SEAT. 7 by the template 'for every input the law returns true; each argument reads behind the call as it read before'; 0 by the template 'total and deterministic' (their statements: YthbjcihdlhkboaaGreatDoorTotals.lean).
  GIVEN WITH THE SEED: the statements are not yours to turn. If you find one false, say at which input.
  Laid BY PROGRAM, IN A SANDBOX (cutbox-rows.mjs): the forced cells as the released guide's own fill.sh prints them over the translation 61cbc1d270829b35… (all of the seat's roots in one cut). By AI agents, Wed Nov 11 2026. No macro, syntax, notation, axiom, sorry.
-/
import Derived.Test.YthbjcihdlhkboaaGreatDoorChecked
import GoSem.PinnedTables
import GoSem.Claim
import GoSem.ClaimJoined
import GoSem.ClaimMapViews
import Derived.JoinedTies
import Derived.KernelRfl
namespace Go.Proofs.YthbjcihdlhkboaaGreatDoor
/- THE CELL 'sum', in the pinned program and in every row, IS THE sha256 OF THE DUMP (.gsa) THAT YthbjcihdlhkboaaGreatDoorProg.lean LOADS. Nothing in Lean hashes anything: it is a label: what it is worth is what the hold of that sum in a sandbox is worth. -/
noncomputable def Tryz.pinned : Pinned := { name := "ythbjcihdlhkboaagreatdoor", sum := "61cbc1d270829b355a9776679f62c3cc6d9b100ca4508116f58fbd9281eefe67", checked := Tryz.checked }
namespace Rows
def none {H : Type} : Left H := { results := [], args := [] }

/- WHAT THE LISTED PACKAGE-LEVEL VARIABLES READ AS WHEN THE CALL BEGINS. Each datum BY PROGRAM (the guide's laid-datum.mjs) off the statement by which the dump's own 'gosem.cut.vars' lays the variable. In a bare row this is a premise. The card (YthbjcihdlhkboaaGreatDoorCards.lean) ties it to the program's text. -/
def laid_unicode_utf8_acceptRanges {H : Type} : DataW H := .agg [.agg [.lit (.int .u8 128), .lit (.int .u8 191)], .agg [.lit (.int .u8 160), .lit (.int .u8 191)], .agg [.lit (.int .u8 128), .lit (.int .u8 159)], .agg [.lit (.int .u8 144), .lit (.int .u8 191)], .agg [.lit (.int .u8 128), .lit (.int .u8 143)], .agg [.lit (.int .u8 0), .lit (.int .u8 0)], .agg [.lit (.int .u8 0), .lit (.int .u8 0)], .agg [.lit (.int .u8 0), .lit (.int .u8 0)], .agg [.lit (.int .u8 0), .lit (.int .u8 0)], .agg [.lit (.int .u8 0), .lit (.int .u8 0)], .agg [.lit (.int .u8 0), .lit (.int .u8 0)], .agg [.lit (.int .u8 0), .lit (.int .u8 0)], .agg [.lit (.int .u8 0), .lit (.int .u8 0)], .agg [.lit (.int .u8 0), .lit (.int .u8 0)], .agg [.lit (.int .u8 0), .lit (.int .u8 0)], .agg [.lit (.int .u8 0), .lit (.int .u8 0)]]
/-- One of Go's own tables, pinned by name: the form's constant. -/
def laid_unicode_utf8_first : DataW Unit := Go.Pinned.utf8First

/-- 'roostlaw17.PrivacyExact': WHATEVER THE INPUT: true; the input reads as it did. -/
def privacyExactSpec : ChangeSpec := { name := "privacyExact", fn := fun _ => fun
  | [d1, d2, d3] => { results := [.lit (.bool true)], args := [d1, d2, d3] }
  | _ => none }
def privacyExactRow : OpenClaim := { program := "ythbjcihdlhkboaagreatdoor", sum := "61cbc1d270829b355a9776679f62c3cc6d9b100ca4508116f58fbd9281eefe67", func := "roost/roostlaw17.PrivacyExact", spec := "privacyExact", inPlace := ["internal/bytealg.IndexByteString", "internal/bytealg.IndexString", "internal/abi.NoEscape", "internal/bytealg.MakeNoZero"], unfollowed := true, recurses := true, named := ["unicode/utf8.first", "unicode/utf8.acceptRanges", "internal/bytealg.MaxLen"], apart := false, laid := [("unicode/utf8.acceptRanges", laid_unicode_utf8_acceptRanges), ("unicode/utf8.first", laid_unicode_utf8_first)] }
def PrivacyExactSaid : Prop := privacyExactRow.holds Tryz.pinned (OpenSpec.ofChange privacyExactSpec)

/-- ITS FALSE NEIGHBOUR: 'it returns false'. Refute it at one input. -/
def privacyExactWrong : ChangeSpec := { name := "privacyExact", fn := fun _ => fun
  | [d1, d2, d3] => { results := [.lit (.bool false)], args := [d1, d2, d3] }
  | _ => none }
def PrivacyExactWrongFalsely : Prop := privacyExactRow.holds Tryz.pinned (OpenSpec.ofChange privacyExactWrong)

/-- 'roostlaw16.RosterBounds': WHATEVER THE INPUT: true; the input reads as it did. -/
def rosterBoundsSpec : ChangeSpec := { name := "rosterBounds", fn := fun _ => fun
  | [d1, d2, d3] => { results := [.lit (.bool true)], args := [d1, d2, d3] }
  | _ => none }
def rosterBoundsRow : OpenClaim := { program := "ythbjcihdlhkboaagreatdoor", sum := "61cbc1d270829b355a9776679f62c3cc6d9b100ca4508116f58fbd9281eefe67", func := "roost/roostlaw16.RosterBounds", spec := "rosterBounds", inPlace := ["internal/abi.NoEscape", "internal/bytealg.MakeNoZero"], unfollowed := true, recurses := true, named := ["unicode/utf8.first", "unicode/utf8.acceptRanges"], apart := false, laid := [("unicode/utf8.acceptRanges", laid_unicode_utf8_acceptRanges), ("unicode/utf8.first", laid_unicode_utf8_first)] }
def RosterBoundsSaid : Prop := rosterBoundsRow.holds Tryz.pinned (OpenSpec.ofChange rosterBoundsSpec)

/-- ITS FALSE NEIGHBOUR: 'it returns false'. Refute it at one input. -/
def rosterBoundsWrong : ChangeSpec := { name := "rosterBounds", fn := fun _ => fun
  | [d1, d2, d3] => { results := [.lit (.bool false)], args := [d1, d2, d3] }
  | _ => none }
def RosterBoundsWrongFalsely : Prop := rosterBoundsRow.holds Tryz.pinned (OpenSpec.ofChange rosterBoundsWrong)

/-- 'roostlaw16.RosterExact': WHATEVER THE INPUT: true; the input reads as it did. -/
def rosterExactSpec : ChangeSpec := { name := "rosterExact", fn := fun _ => fun
  | [d1, d2, d3] => { results := [.lit (.bool true)], args := [d1, d2, d3] }
  | _ => none }
def rosterExactRow : OpenClaim := { program := "ythbjcihdlhkboaagreatdoor", sum := "61cbc1d270829b355a9776679f62c3cc6d9b100ca4508116f58fbd9281eefe67", func := "roost/roostlaw16.RosterExact", spec := "rosterExact", inPlace := ["internal/abi.NoEscape", "internal/bytealg.MakeNoZero"], unfollowed := true, recurses := true, named := ["unicode/utf8.first", "unicode/utf8.acceptRanges"], apart := false, laid := [("unicode/utf8.acceptRanges", laid_unicode_utf8_acceptRanges), ("unicode/utf8.first", laid_unicode_utf8_first)] }
def RosterExactSaid : Prop := rosterExactRow.holds Tryz.pinned (OpenSpec.ofChange rosterExactSpec)

/-- ITS FALSE NEIGHBOUR: 'it returns false'. Refute it at one input. -/
def rosterExactWrong : ChangeSpec := { name := "rosterExact", fn := fun _ => fun
  | [d1, d2, d3] => { results := [.lit (.bool false)], args := [d1, d2, d3] }
  | _ => none }
def RosterExactWrongFalsely : Prop := rosterExactRow.holds Tryz.pinned (OpenSpec.ofChange rosterExactWrong)

/-- 'roostlaw17.PrivacyLoad': WHATEVER THE INPUT: true; the input reads as it did. -/
def privacyLoadSpec : ChangeSpec := { name := "privacyLoad", fn := fun _ => fun
  | [d1, d2] => { results := [.lit (.bool true)], args := [d1, d2] }
  | _ => none }
def privacyLoadRow : OpenClaim := { program := "ythbjcihdlhkboaagreatdoor", sum := "61cbc1d270829b355a9776679f62c3cc6d9b100ca4508116f58fbd9281eefe67", func := "roost/roostlaw17.PrivacyLoad", spec := "privacyLoad", inPlace := ["internal/bytealg.IndexByteString", "internal/bytealg.IndexString", "internal/abi.NoEscape", "internal/bytealg.MakeNoZero"], unfollowed := true, recurses := true, named := ["unicode/utf8.first", "unicode/utf8.acceptRanges", "internal/bytealg.MaxLen"], apart := false, laid := [("unicode/utf8.acceptRanges", laid_unicode_utf8_acceptRanges), ("unicode/utf8.first", laid_unicode_utf8_first)] }
def PrivacyLoadSaid : Prop := privacyLoadRow.holds Tryz.pinned (OpenSpec.ofChange privacyLoadSpec)

/-- ITS FALSE NEIGHBOUR: 'it returns false'. Refute it at one input. -/
def privacyLoadWrong : ChangeSpec := { name := "privacyLoad", fn := fun _ => fun
  | [d1, d2] => { results := [.lit (.bool false)], args := [d1, d2] }
  | _ => none }
def PrivacyLoadWrongFalsely : Prop := privacyLoadRow.holds Tryz.pinned (OpenSpec.ofChange privacyLoadWrong)

/-- 'roostlaw17.PrivacyOwn': WHATEVER THE INPUT: true; the input reads as it did. -/
def privacyOwnSpec : ChangeSpec := { name := "privacyOwn", fn := fun _ => fun
  | [d1, d2] => { results := [.lit (.bool true)], args := [d1, d2] }
  | _ => none }
def privacyOwnRow : OpenClaim := { program := "ythbjcihdlhkboaagreatdoor", sum := "61cbc1d270829b355a9776679f62c3cc6d9b100ca4508116f58fbd9281eefe67", func := "roost/roostlaw17.PrivacyOwn", spec := "privacyOwn", inPlace := ["internal/bytealg.IndexByteString", "internal/bytealg.IndexString", "internal/abi.NoEscape", "internal/bytealg.MakeNoZero"], unfollowed := true, recurses := true, named := ["unicode/utf8.first", "unicode/utf8.acceptRanges", "internal/bytealg.MaxLen"], apart := false, laid := [("unicode/utf8.acceptRanges", laid_unicode_utf8_acceptRanges), ("unicode/utf8.first", laid_unicode_utf8_first)] }
def PrivacyOwnSaid : Prop := privacyOwnRow.holds Tryz.pinned (OpenSpec.ofChange privacyOwnSpec)

/-- ITS FALSE NEIGHBOUR: 'it returns false'. Refute it at one input. -/
def privacyOwnWrong : ChangeSpec := { name := "privacyOwn", fn := fun _ => fun
  | [d1, d2] => { results := [.lit (.bool false)], args := [d1, d2] }
  | _ => none }
def PrivacyOwnWrongFalsely : Prop := privacyOwnRow.holds Tryz.pinned (OpenSpec.ofChange privacyOwnWrong)

/-- 'roostlaw16.RosterOwn': WHATEVER THE INPUT: true; the input reads as it did. -/
def rosterOwnSpec : ChangeSpec := { name := "rosterOwn", fn := fun _ => fun
  | [d1, d2] => { results := [.lit (.bool true)], args := [d1, d2] }
  | _ => none }
def rosterOwnRow : OpenClaim := { program := "ythbjcihdlhkboaagreatdoor", sum := "61cbc1d270829b355a9776679f62c3cc6d9b100ca4508116f58fbd9281eefe67", func := "roost/roostlaw16.RosterOwn", spec := "rosterOwn", inPlace := ["internal/abi.NoEscape", "internal/bytealg.MakeNoZero"], unfollowed := true, recurses := true, named := ["unicode/utf8.first", "unicode/utf8.acceptRanges"], apart := false, laid := [("unicode/utf8.acceptRanges", laid_unicode_utf8_acceptRanges), ("unicode/utf8.first", laid_unicode_utf8_first)] }
def RosterOwnSaid : Prop := rosterOwnRow.holds Tryz.pinned (OpenSpec.ofChange rosterOwnSpec)

/-- ITS FALSE NEIGHBOUR: 'it returns false'. Refute it at one input. -/
def rosterOwnWrong : ChangeSpec := { name := "rosterOwn", fn := fun _ => fun
  | [d1, d2] => { results := [.lit (.bool false)], args := [d1, d2] }
  | _ => none }
def RosterOwnWrongFalsely : Prop := rosterOwnRow.holds Tryz.pinned (OpenSpec.ofChange rosterOwnWrong)

/-- 'roostlaw16.RosterLoad': WHATEVER THE INPUT: true; the input reads as it did. -/
def rosterLoadSpec : ChangeSpec := { name := "rosterLoad", fn := fun _ => fun
  | [d1, d2] => { results := [.lit (.bool true)], args := [d1, d2] }
  | _ => none }
def rosterLoadRow : OpenClaim := { program := "ythbjcihdlhkboaagreatdoor", sum := "61cbc1d270829b355a9776679f62c3cc6d9b100ca4508116f58fbd9281eefe67", func := "roost/roostlaw16.RosterLoad", spec := "rosterLoad", inPlace := ["internal/abi.NoEscape", "internal/bytealg.MakeNoZero"], unfollowed := true, recurses := true, named := ["unicode/utf8.first", "unicode/utf8.acceptRanges"], apart := false, laid := [("unicode/utf8.acceptRanges", laid_unicode_utf8_acceptRanges), ("unicode/utf8.first", laid_unicode_utf8_first)] }
def RosterLoadSaid : Prop := rosterLoadRow.holds Tryz.pinned (OpenSpec.ofChange rosterLoadSpec)

/-- ITS FALSE NEIGHBOUR: 'it returns false'. Refute it at one input. -/
def rosterLoadWrong : ChangeSpec := { name := "rosterLoad", fn := fun _ => fun
  | [d1, d2] => { results := [.lit (.bool false)], args := [d1, d2] }
  | _ => none }
def RosterLoadWrongFalsely : Prop := rosterLoadRow.holds Tryz.pinned (OpenSpec.ofChange rosterLoadWrong)

/- THE SECOND FORM. 'bulk': how many values and letters a reading holds, each counted each time it is reached (what is shared counts as often as it is met; a slice's spare places count too). A statement '..UptoSaid' is the law's where the arguments, and the package variables that the reading takes, are together of bulk at most 1048576: NARROWER than '..Said'. Prove '..Said' where nothing that the law and all that it calls make is longer than what came in: it says more and counts as full. Else prove '..UptoSaid'. A law counts once. -/
mutual
def uptoBulk {H : Type} : DataW H → Nat
  | .lit (.string bytes) => bytes.length + 1
  | .lit _ => 1
  | .nil => 1
  | .ptr d => uptoBulk d + 1
  | .slice elems spare => uptoBulkAll elems + uptoBulkAll spare + 1
  | .agg parts => uptoBulkAll parts + 1
  | .iface _ d => uptoBulk d + 1
  | .map entries => uptoBulkEntries entries + 1
  | .held _ => 1
def uptoBulkAll {H : Type} : List (DataW H) → Nat
  | [] => 0
  | d :: r => uptoBulk d + uptoBulkAll r
def uptoBulkEntries {H : Type} : List (Lit × DataW H) → Nat
  | [] => 0
  | x :: r => uptoBulkEntry x + uptoBulkEntries r
def uptoBulkEntry {H : Type} : Lit × DataW H → Nat
  | (.string bytes, d) => bytes.length + uptoBulk d + 1
  | (_, d) => uptoBulk d + 1
 end
def uptoSmall : (H : Type) → List (DataW H) → Bool := fun _ ds => decide (uptoBulkAll ds ≤ 1048576)
def OpenSpec.upto (s : _root_.Go.ChangeSpec) : _root_.Go.OpenSpec := { _root_.Go.OpenSpec.ofChange s with cond := some uptoSmall }

/-- 'roostlaw17.PrivacyExact', WHERE WHAT IT READS IS OF BULK AT MOST 1048576: true; the input reads as it did. -/
def privacyExactUptoRow : OpenClaim := { program := "ythbjcihdlhkboaagreatdoor", sum := "61cbc1d270829b355a9776679f62c3cc6d9b100ca4508116f58fbd9281eefe67", func := "roost/roostlaw17.PrivacyExact", spec := "privacyExact", inPlace := ["internal/bytealg.IndexByteString", "internal/bytealg.IndexString", "internal/abi.NoEscape", "internal/bytealg.MakeNoZero"], unfollowed := true, recurses := true, named := ["unicode/utf8.first", "unicode/utf8.acceptRanges", "internal/bytealg.MaxLen"], apart := false, laid := [("unicode/utf8.acceptRanges", laid_unicode_utf8_acceptRanges), ("unicode/utf8.first", laid_unicode_utf8_first)], narrowed := true }
def PrivacyExactUptoSaid : Prop := privacyExactUptoRow.holds Tryz.pinned (OpenSpec.upto privacyExactSpec)

/-- 'roostlaw16.RosterBounds', WHERE WHAT IT READS IS OF BULK AT MOST 1048576: true; the input reads as it did. -/
def rosterBoundsUptoRow : OpenClaim := { program := "ythbjcihdlhkboaagreatdoor", sum := "61cbc1d270829b355a9776679f62c3cc6d9b100ca4508116f58fbd9281eefe67", func := "roost/roostlaw16.RosterBounds", spec := "rosterBounds", inPlace := ["internal/abi.NoEscape", "internal/bytealg.MakeNoZero"], unfollowed := true, recurses := true, named := ["unicode/utf8.first", "unicode/utf8.acceptRanges"], apart := false, laid := [("unicode/utf8.acceptRanges", laid_unicode_utf8_acceptRanges), ("unicode/utf8.first", laid_unicode_utf8_first)], narrowed := true }
def RosterBoundsUptoSaid : Prop := rosterBoundsUptoRow.holds Tryz.pinned (OpenSpec.upto rosterBoundsSpec)

/-- 'roostlaw16.RosterExact', WHERE WHAT IT READS IS OF BULK AT MOST 1048576: true; the input reads as it did. -/
def rosterExactUptoRow : OpenClaim := { program := "ythbjcihdlhkboaagreatdoor", sum := "61cbc1d270829b355a9776679f62c3cc6d9b100ca4508116f58fbd9281eefe67", func := "roost/roostlaw16.RosterExact", spec := "rosterExact", inPlace := ["internal/abi.NoEscape", "internal/bytealg.MakeNoZero"], unfollowed := true, recurses := true, named := ["unicode/utf8.first", "unicode/utf8.acceptRanges"], apart := false, laid := [("unicode/utf8.acceptRanges", laid_unicode_utf8_acceptRanges), ("unicode/utf8.first", laid_unicode_utf8_first)], narrowed := true }
def RosterExactUptoSaid : Prop := rosterExactUptoRow.holds Tryz.pinned (OpenSpec.upto rosterExactSpec)

/-- 'roostlaw17.PrivacyLoad', WHERE WHAT IT READS IS OF BULK AT MOST 1048576: true; the input reads as it did. -/
def privacyLoadUptoRow : OpenClaim := { program := "ythbjcihdlhkboaagreatdoor", sum := "61cbc1d270829b355a9776679f62c3cc6d9b100ca4508116f58fbd9281eefe67", func := "roost/roostlaw17.PrivacyLoad", spec := "privacyLoad", inPlace := ["internal/bytealg.IndexByteString", "internal/bytealg.IndexString", "internal/abi.NoEscape", "internal/bytealg.MakeNoZero"], unfollowed := true, recurses := true, named := ["unicode/utf8.first", "unicode/utf8.acceptRanges", "internal/bytealg.MaxLen"], apart := false, laid := [("unicode/utf8.acceptRanges", laid_unicode_utf8_acceptRanges), ("unicode/utf8.first", laid_unicode_utf8_first)], narrowed := true }
def PrivacyLoadUptoSaid : Prop := privacyLoadUptoRow.holds Tryz.pinned (OpenSpec.upto privacyLoadSpec)

/-- 'roostlaw17.PrivacyOwn', WHERE WHAT IT READS IS OF BULK AT MOST 1048576: true; the input reads as it did. -/
def privacyOwnUptoRow : OpenClaim := { program := "ythbjcihdlhkboaagreatdoor", sum := "61cbc1d270829b355a9776679f62c3cc6d9b100ca4508116f58fbd9281eefe67", func := "roost/roostlaw17.PrivacyOwn", spec := "privacyOwn", inPlace := ["internal/bytealg.IndexByteString", "internal/bytealg.IndexString", "internal/abi.NoEscape", "internal/bytealg.MakeNoZero"], unfollowed := true, recurses := true, named := ["unicode/utf8.first", "unicode/utf8.acceptRanges", "internal/bytealg.MaxLen"], apart := false, laid := [("unicode/utf8.acceptRanges", laid_unicode_utf8_acceptRanges), ("unicode/utf8.first", laid_unicode_utf8_first)], narrowed := true }
def PrivacyOwnUptoSaid : Prop := privacyOwnUptoRow.holds Tryz.pinned (OpenSpec.upto privacyOwnSpec)

/-- 'roostlaw16.RosterOwn', WHERE WHAT IT READS IS OF BULK AT MOST 1048576: true; the input reads as it did. -/
def rosterOwnUptoRow : OpenClaim := { program := "ythbjcihdlhkboaagreatdoor", sum := "61cbc1d270829b355a9776679f62c3cc6d9b100ca4508116f58fbd9281eefe67", func := "roost/roostlaw16.RosterOwn", spec := "rosterOwn", inPlace := ["internal/abi.NoEscape", "internal/bytealg.MakeNoZero"], unfollowed := true, recurses := true, named := ["unicode/utf8.first", "unicode/utf8.acceptRanges"], apart := false, laid := [("unicode/utf8.acceptRanges", laid_unicode_utf8_acceptRanges), ("unicode/utf8.first", laid_unicode_utf8_first)], narrowed := true }
def RosterOwnUptoSaid : Prop := rosterOwnUptoRow.holds Tryz.pinned (OpenSpec.upto rosterOwnSpec)

/-- 'roostlaw16.RosterLoad', WHERE WHAT IT READS IS OF BULK AT MOST 1048576: true; the input reads as it did. -/
def rosterLoadUptoRow : OpenClaim := { program := "ythbjcihdlhkboaagreatdoor", sum := "61cbc1d270829b355a9776679f62c3cc6d9b100ca4508116f58fbd9281eefe67", func := "roost/roostlaw16.RosterLoad", spec := "rosterLoad", inPlace := ["internal/abi.NoEscape", "internal/bytealg.MakeNoZero"], unfollowed := true, recurses := true, named := ["unicode/utf8.first", "unicode/utf8.acceptRanges"], apart := false, laid := [("unicode/utf8.acceptRanges", laid_unicode_utf8_acceptRanges), ("unicode/utf8.first", laid_unicode_utf8_first)], narrowed := true }
def RosterLoadUptoSaid : Prop := rosterLoadUptoRow.holds Tryz.pinned (OpenSpec.upto rosterLoadSpec)

end Rows
end Go.Proofs.YthbjcihdlhkboaaGreatDoor
