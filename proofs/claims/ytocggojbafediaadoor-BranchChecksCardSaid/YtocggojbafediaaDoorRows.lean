/-
  NARROWER THAN 'FOR EVERY INPUT', by the rows' own cells (each row's printed sentence says how): BranchCuts: laid · BranchEdit: laid · BranchEdits: laid · BranchChecks: laid · BranchEncodes: laid · BranchDecodes: laid · BranchBack: laid · BranchOnly: laid · BranchHalves: laid · BranchMemory: laid · ScriptWords: laid · ScriptQuote: laid.
  DERIVED. THE GIVEN ROWS OF THIS SEAT. 12 by the template 'for every input the law returns true; each argument reads behind the call as it read before'; 0 by the template 'total and deterministic' (their statements: YtocggojbafediaaDoorTotals.lean).
  GIVEN WITH THE SEED: the statements are not yours to turn. If you find one false, say at which input.
  Laid BY PROGRAM, IN A SANDBOX (cutbox-rows.mjs): the forced cells as the released guide's own fill.sh prints them over the translation 79d10352fb4f11ac… (all of the seat's roots in one cut). By AI agents, Wed Nov 11 2026. No macro, syntax, notation, axiom, sorry.
-/
import Derived.Test.YtocggojbafediaaDoorChecked
import GoSem.PinnedTables
import GoSem.Claim
import GoSem.ClaimJoined
import GoSem.ClaimMapViews
import Derived.JoinedTies
import Derived.KernelRfl
namespace Go.Proofs.YtocggojbafediaaDoor
/- THE CELL 'sum', in the pinned program and in every row, IS THE sha256 OF THE DUMP (.gsa) THAT YtocggojbafediaaDoorProg.lean LOADS. Nothing in Lean hashes anything: it is a label: what it is worth is what the hold of that sum in a sandbox is worth. -/
noncomputable def Tryd.pinned : Pinned := { name := "ytocggojbafediaadoor", sum := "79d10352fb4f11ac436922d4d2906ddb5033292c54fe588e45549183690ebeb4", checked := Tryd.checked }
namespace Rows
def none {H : Type} : Left H := { results := [], args := [] }

/- WHAT THE LISTED PACKAGE-LEVEL VARIABLES READ AS WHEN THE CALL BEGINS. Each datum BY PROGRAM (the guide's laid-datum.mjs) off the statement by which the dump's own 'gosem.cut.vars' lays the variable. In a bare row this is a premise. The card (YtocggojbafediaaDoorCards.lean) ties it to the program's text. -/
def laid_copse_api_ErrArg {H : Type} : DataW H := .iface "*errors.errorString" (.ptr (.agg [.lit (.string [97, 32, 110, 117, 109, 98, 101, 114, 32, 111, 114, 32, 97, 110, 32, 97, 114, 103, 117, 109, 101, 110, 116, 32, 105, 115, 32, 111, 117, 116, 32, 111, 102, 32, 105, 116, 115, 32, 112, 108, 97, 99, 101])]))
def laid_copse_api_ErrText {H : Type} : DataW H := .iface "*errors.errorString" (.ptr (.agg [.lit (.string [97, 32, 116, 101, 120, 116, 32, 111, 114, 32, 98, 121, 116, 101, 115, 32, 116, 104, 97, 116, 32, 99, 97, 110, 110, 111, 116, 32, 98, 101, 32, 114, 101, 97, 100])]))
def laid_copse_api_ErrMany {H : Type} : DataW H := .iface "*errors.errorString" (.ptr (.agg [.lit (.string [97, 98, 111, 118, 101, 32, 97, 32, 108, 105, 109, 105, 116])]))
def laid_copse_api_ErrShort {H : Type} : DataW H := .iface "*errors.errorString" (.ptr (.agg [.lit (.string [115, 111, 109, 101, 116, 104, 105, 110, 103, 32, 105, 115, 32, 109, 105, 115, 115, 105, 110, 103])]))
def laid_copse_api_ErrTwice {H : Type} : DataW H := .iface "*errors.errorString" (.ptr (.agg [.lit (.string [116, 104, 101, 114, 101, 32, 116, 119, 105, 99, 101])]))
def laid_copse_api_ErrLost {H : Type} : DataW H := .iface "*errors.errorString" (.ptr (.agg [.lit (.string [110, 111, 116, 32, 116, 104, 101, 114, 101])]))
def laid_copse_api_ErrFull {H : Type} : DataW H := .iface "*errors.errorString" (.ptr (.agg [.lit (.string [110, 111, 32, 114, 111, 111, 109, 32, 111, 110, 32, 116, 104, 101, 32, 100, 101, 118, 105, 99, 101])]))
def laid_copse_api_ErrDead {H : Type} : DataW H := .iface "*errors.errorString" (.ptr (.agg [.lit (.string [116, 104, 101, 32, 112, 111, 119, 101, 114, 32, 104, 97, 115, 32, 102, 97, 105, 108, 101, 100])]))
def laid_copse_api_ErrCorrupt {H : Type} : DataW H := .iface "*errors.errorString" (.ptr (.agg [.lit (.string [110, 111, 116, 32, 97, 32, 115, 116, 111, 114, 101])]))
def laid_copse_api_ErrStatus {H : Type} : DataW H := .iface "*errors.errorString" (.ptr (.agg [.lit (.string [110, 111, 116, 32, 110, 111, 119])]))
def laid_copse_api_ErrTxid {H : Type} : DataW H := .iface "*errors.errorString" (.ptr (.agg [.lit (.string [110, 111, 32, 102, 117, 114, 116, 104, 101, 114, 32, 116, 114, 97, 110, 115, 97, 99, 116, 105, 111, 110, 32, 104, 97, 115, 32, 97, 32, 110, 117, 109, 98, 101, 114])]))
def laid_copse_api_ErrOrder {H : Type} : DataW H := .iface "*errors.errorString" (.ptr (.agg [.lit (.string [110, 111, 116, 32, 105, 110, 32, 111, 114, 100, 101, 114])]))
def laid_copse_api_ErrKind {H : Type} : DataW H := .iface "*errors.errorString" (.ptr (.agg [.lit (.string [111, 102, 32, 97, 110, 111, 116, 104, 101, 114, 32, 107, 105, 110, 100])]))
def laid_unicode_utf8_acceptRanges {H : Type} : DataW H := .agg [.agg [.lit (.int .u8 128), .lit (.int .u8 191)], .agg [.lit (.int .u8 160), .lit (.int .u8 191)], .agg [.lit (.int .u8 128), .lit (.int .u8 159)], .agg [.lit (.int .u8 144), .lit (.int .u8 191)], .agg [.lit (.int .u8 128), .lit (.int .u8 143)], .agg [.lit (.int .u8 0), .lit (.int .u8 0)], .agg [.lit (.int .u8 0), .lit (.int .u8 0)], .agg [.lit (.int .u8 0), .lit (.int .u8 0)], .agg [.lit (.int .u8 0), .lit (.int .u8 0)], .agg [.lit (.int .u8 0), .lit (.int .u8 0)], .agg [.lit (.int .u8 0), .lit (.int .u8 0)], .agg [.lit (.int .u8 0), .lit (.int .u8 0)], .agg [.lit (.int .u8 0), .lit (.int .u8 0)], .agg [.lit (.int .u8 0), .lit (.int .u8 0)], .agg [.lit (.int .u8 0), .lit (.int .u8 0)], .agg [.lit (.int .u8 0), .lit (.int .u8 0)]]
/-- One of Go's own tables, pinned by name: the form's constant. -/
def laid_unicode_utf8_first : DataW Unit := Go.Pinned.utf8First

/-- 'copselaw8.BranchCuts': WHATEVER THE INPUT: true; the input reads as it did. -/
def branchCutsSpec : ChangeSpec := { name := "branchCuts", fn := fun _ => fun
  | [d] => { results := [.lit (.bool true)], args := [d] }
  | _ => none }
def branchCutsRow : OpenClaim := { program := "ytocggojbafediaadoor", sum := "79d10352fb4f11ac436922d4d2906ddb5033292c54fe588e45549183690ebeb4", func := "copse/copselaw8.BranchCuts", spec := "branchCuts", unfollowed := true, recurses := true, named := ["copse/api.ErrShort", "copse/api.ErrArg", "copse/api.ErrText", "copse/api.ErrMany", "copse/api.ErrTwice", "copse/api.ErrLost", "copse/api.ErrFull", "copse/api.ErrDead", "copse/api.ErrCorrupt", "copse/api.ErrStatus", "copse/api.ErrTxid", "copse/api.ErrOrder", "copse/api.ErrKind"], apart := false, laid := [("copse/api.ErrArg", laid_copse_api_ErrArg), ("copse/api.ErrText", laid_copse_api_ErrText), ("copse/api.ErrMany", laid_copse_api_ErrMany), ("copse/api.ErrShort", laid_copse_api_ErrShort), ("copse/api.ErrTwice", laid_copse_api_ErrTwice), ("copse/api.ErrLost", laid_copse_api_ErrLost), ("copse/api.ErrFull", laid_copse_api_ErrFull), ("copse/api.ErrDead", laid_copse_api_ErrDead), ("copse/api.ErrCorrupt", laid_copse_api_ErrCorrupt), ("copse/api.ErrStatus", laid_copse_api_ErrStatus), ("copse/api.ErrTxid", laid_copse_api_ErrTxid), ("copse/api.ErrOrder", laid_copse_api_ErrOrder), ("copse/api.ErrKind", laid_copse_api_ErrKind)] }
def BranchCutsSaid : Prop := branchCutsRow.holds Tryd.pinned (OpenSpec.ofChange branchCutsSpec)

/-- ITS FALSE NEIGHBOUR: 'it returns false'. Refute it at one input. -/
def branchCutsWrong : ChangeSpec := { name := "branchCuts", fn := fun _ => fun
  | [d] => { results := [.lit (.bool false)], args := [d] }
  | _ => none }
def BranchCutsWrongFalsely : Prop := branchCutsRow.holds Tryd.pinned (OpenSpec.ofChange branchCutsWrong)

/-- 'copselaw8.BranchEdit': WHATEVER THE INPUT: true; the input reads as it did. -/
def branchEditSpec : ChangeSpec := { name := "branchEdit", fn := fun _ => fun
  | [d] => { results := [.lit (.bool true)], args := [d] }
  | _ => none }
def branchEditRow : OpenClaim := { program := "ytocggojbafediaadoor", sum := "79d10352fb4f11ac436922d4d2906ddb5033292c54fe588e45549183690ebeb4", func := "copse/copselaw8.BranchEdit", spec := "branchEdit", inPlace := ["slices.overlaps[copse/api.Link]"], named := ["copse/api.ErrArg"], apart := false, laid := [("copse/api.ErrArg", laid_copse_api_ErrArg)] }
def BranchEditSaid : Prop := branchEditRow.holds Tryd.pinned (OpenSpec.ofChange branchEditSpec)

/-- ITS FALSE NEIGHBOUR: 'it returns false'. Refute it at one input. -/
def branchEditWrong : ChangeSpec := { name := "branchEdit", fn := fun _ => fun
  | [d] => { results := [.lit (.bool false)], args := [d] }
  | _ => none }
def BranchEditWrongFalsely : Prop := branchEditRow.holds Tryd.pinned (OpenSpec.ofChange branchEditWrong)

/-- 'copselaw8.BranchEdits': WHATEVER THE INPUT: true; the input reads as it did. -/
def branchEditsSpec : ChangeSpec := { name := "branchEdits", fn := fun _ => fun
  | [d] => { results := [.lit (.bool true)], args := [d] }
  | _ => none }
def branchEditsRow : OpenClaim := { program := "ytocggojbafediaadoor", sum := "79d10352fb4f11ac436922d4d2906ddb5033292c54fe588e45549183690ebeb4", func := "copse/copselaw8.BranchEdits", spec := "branchEdits", inPlace := ["slices.overlaps[copse/api.Link]"], unfollowed := true, recurses := true, named := ["copse/api.ErrArg", "copse/api.ErrText", "copse/api.ErrMany", "copse/api.ErrShort", "copse/api.ErrTwice", "copse/api.ErrLost", "copse/api.ErrFull", "copse/api.ErrDead", "copse/api.ErrCorrupt", "copse/api.ErrStatus", "copse/api.ErrTxid", "copse/api.ErrOrder", "copse/api.ErrKind"], apart := false, laid := [("copse/api.ErrArg", laid_copse_api_ErrArg), ("copse/api.ErrText", laid_copse_api_ErrText), ("copse/api.ErrMany", laid_copse_api_ErrMany), ("copse/api.ErrShort", laid_copse_api_ErrShort), ("copse/api.ErrTwice", laid_copse_api_ErrTwice), ("copse/api.ErrLost", laid_copse_api_ErrLost), ("copse/api.ErrFull", laid_copse_api_ErrFull), ("copse/api.ErrDead", laid_copse_api_ErrDead), ("copse/api.ErrCorrupt", laid_copse_api_ErrCorrupt), ("copse/api.ErrStatus", laid_copse_api_ErrStatus), ("copse/api.ErrTxid", laid_copse_api_ErrTxid), ("copse/api.ErrOrder", laid_copse_api_ErrOrder), ("copse/api.ErrKind", laid_copse_api_ErrKind)] }
def BranchEditsSaid : Prop := branchEditsRow.holds Tryd.pinned (OpenSpec.ofChange branchEditsSpec)

/-- ITS FALSE NEIGHBOUR: 'it returns false'. Refute it at one input. -/
def branchEditsWrong : ChangeSpec := { name := "branchEdits", fn := fun _ => fun
  | [d] => { results := [.lit (.bool false)], args := [d] }
  | _ => none }
def BranchEditsWrongFalsely : Prop := branchEditsRow.holds Tryd.pinned (OpenSpec.ofChange branchEditsWrong)

/-- 'copselaw8.BranchChecks': WHATEVER THE INPUT: true; the input reads as it did. -/
def branchChecksSpec : ChangeSpec := { name := "branchChecks", fn := fun _ => fun
  | [d] => { results := [.lit (.bool true)], args := [d] }
  | _ => none }
def branchChecksRow : OpenClaim := { program := "ytocggojbafediaadoor", sum := "79d10352fb4f11ac436922d4d2906ddb5033292c54fe588e45549183690ebeb4", func := "copse/copselaw8.BranchChecks", spec := "branchChecks", unfollowed := true, recurses := true, named := ["copse/api.ErrShort", "copse/api.ErrArg", "copse/api.ErrOrder", "copse/api.ErrTwice", "copse/api.ErrMany", "copse/api.ErrText", "copse/api.ErrLost", "copse/api.ErrFull", "copse/api.ErrDead", "copse/api.ErrCorrupt", "copse/api.ErrStatus", "copse/api.ErrTxid", "copse/api.ErrKind"], apart := false, laid := [("copse/api.ErrArg", laid_copse_api_ErrArg), ("copse/api.ErrText", laid_copse_api_ErrText), ("copse/api.ErrMany", laid_copse_api_ErrMany), ("copse/api.ErrShort", laid_copse_api_ErrShort), ("copse/api.ErrTwice", laid_copse_api_ErrTwice), ("copse/api.ErrLost", laid_copse_api_ErrLost), ("copse/api.ErrFull", laid_copse_api_ErrFull), ("copse/api.ErrDead", laid_copse_api_ErrDead), ("copse/api.ErrCorrupt", laid_copse_api_ErrCorrupt), ("copse/api.ErrStatus", laid_copse_api_ErrStatus), ("copse/api.ErrTxid", laid_copse_api_ErrTxid), ("copse/api.ErrOrder", laid_copse_api_ErrOrder), ("copse/api.ErrKind", laid_copse_api_ErrKind)] }
def BranchChecksSaid : Prop := branchChecksRow.holds Tryd.pinned (OpenSpec.ofChange branchChecksSpec)

/-- ITS FALSE NEIGHBOUR: 'it returns false'. Refute it at one input. -/
def branchChecksWrong : ChangeSpec := { name := "branchChecks", fn := fun _ => fun
  | [d] => { results := [.lit (.bool false)], args := [d] }
  | _ => none }
def BranchChecksWrongFalsely : Prop := branchChecksRow.holds Tryd.pinned (OpenSpec.ofChange branchChecksWrong)

/-- 'copselaw8.BranchEncodes': WHATEVER THE INPUT: true; the input reads as it did. -/
def branchEncodesSpec : ChangeSpec := { name := "branchEncodes", fn := fun _ => fun
  | [d] => { results := [.lit (.bool true)], args := [d] }
  | _ => none }
def branchEncodesRow : OpenClaim := { program := "ytocggojbafediaadoor", sum := "79d10352fb4f11ac436922d4d2906ddb5033292c54fe588e45549183690ebeb4", func := "copse/copselaw8.BranchEncodes", spec := "branchEncodes", unfollowed := true, recurses := true, named := ["copse/api.ErrShort", "copse/api.ErrArg", "copse/api.ErrOrder", "copse/api.ErrTwice", "copse/api.ErrMany", "copse/api.ErrText", "copse/api.ErrLost", "copse/api.ErrFull", "copse/api.ErrDead", "copse/api.ErrCorrupt", "copse/api.ErrStatus", "copse/api.ErrTxid", "copse/api.ErrKind"], apart := false, laid := [("copse/api.ErrArg", laid_copse_api_ErrArg), ("copse/api.ErrText", laid_copse_api_ErrText), ("copse/api.ErrMany", laid_copse_api_ErrMany), ("copse/api.ErrShort", laid_copse_api_ErrShort), ("copse/api.ErrTwice", laid_copse_api_ErrTwice), ("copse/api.ErrLost", laid_copse_api_ErrLost), ("copse/api.ErrFull", laid_copse_api_ErrFull), ("copse/api.ErrDead", laid_copse_api_ErrDead), ("copse/api.ErrCorrupt", laid_copse_api_ErrCorrupt), ("copse/api.ErrStatus", laid_copse_api_ErrStatus), ("copse/api.ErrTxid", laid_copse_api_ErrTxid), ("copse/api.ErrOrder", laid_copse_api_ErrOrder), ("copse/api.ErrKind", laid_copse_api_ErrKind)] }
def BranchEncodesSaid : Prop := branchEncodesRow.holds Tryd.pinned (OpenSpec.ofChange branchEncodesSpec)

/-- ITS FALSE NEIGHBOUR: 'it returns false'. Refute it at one input. -/
def branchEncodesWrong : ChangeSpec := { name := "branchEncodes", fn := fun _ => fun
  | [d] => { results := [.lit (.bool false)], args := [d] }
  | _ => none }
def BranchEncodesWrongFalsely : Prop := branchEncodesRow.holds Tryd.pinned (OpenSpec.ofChange branchEncodesWrong)

/-- 'copselaw8.BranchDecodes': WHATEVER THE INPUT: true; the input reads as it did. -/
def branchDecodesSpec : ChangeSpec := { name := "branchDecodes", fn := fun _ => fun
  | [d] => { results := [.lit (.bool true)], args := [d] }
  | _ => none }
def branchDecodesRow : OpenClaim := { program := "ytocggojbafediaadoor", sum := "79d10352fb4f11ac436922d4d2906ddb5033292c54fe588e45549183690ebeb4", func := "copse/copselaw8.BranchDecodes", spec := "branchDecodes", unfollowed := true, recurses := true, named := ["copse/api.ErrText", "copse/api.ErrArg", "copse/api.ErrShort", "copse/api.ErrOrder", "copse/api.ErrTwice", "copse/api.ErrMany", "copse/api.ErrLost", "copse/api.ErrFull", "copse/api.ErrDead", "copse/api.ErrCorrupt", "copse/api.ErrStatus", "copse/api.ErrTxid", "copse/api.ErrKind"], apart := false, laid := [("copse/api.ErrArg", laid_copse_api_ErrArg), ("copse/api.ErrText", laid_copse_api_ErrText), ("copse/api.ErrMany", laid_copse_api_ErrMany), ("copse/api.ErrShort", laid_copse_api_ErrShort), ("copse/api.ErrTwice", laid_copse_api_ErrTwice), ("copse/api.ErrLost", laid_copse_api_ErrLost), ("copse/api.ErrFull", laid_copse_api_ErrFull), ("copse/api.ErrDead", laid_copse_api_ErrDead), ("copse/api.ErrCorrupt", laid_copse_api_ErrCorrupt), ("copse/api.ErrStatus", laid_copse_api_ErrStatus), ("copse/api.ErrTxid", laid_copse_api_ErrTxid), ("copse/api.ErrOrder", laid_copse_api_ErrOrder), ("copse/api.ErrKind", laid_copse_api_ErrKind)] }
def BranchDecodesSaid : Prop := branchDecodesRow.holds Tryd.pinned (OpenSpec.ofChange branchDecodesSpec)

/-- ITS FALSE NEIGHBOUR: 'it returns false'. Refute it at one input. -/
def branchDecodesWrong : ChangeSpec := { name := "branchDecodes", fn := fun _ => fun
  | [d] => { results := [.lit (.bool false)], args := [d] }
  | _ => none }
def BranchDecodesWrongFalsely : Prop := branchDecodesRow.holds Tryd.pinned (OpenSpec.ofChange branchDecodesWrong)

/-- 'copselaw8.BranchBack': WHATEVER THE INPUT: true; the input reads as it did. -/
def branchBackSpec : ChangeSpec := { name := "branchBack", fn := fun _ => fun
  | [d] => { results := [.lit (.bool true)], args := [d] }
  | _ => none }
def branchBackRow : OpenClaim := { program := "ytocggojbafediaadoor", sum := "79d10352fb4f11ac436922d4d2906ddb5033292c54fe588e45549183690ebeb4", func := "copse/copselaw8.BranchBack", spec := "branchBack", unfollowed := true, recurses := true, named := ["copse/api.ErrShort", "copse/api.ErrArg", "copse/api.ErrOrder", "copse/api.ErrTwice", "copse/api.ErrMany", "copse/api.ErrText", "copse/api.ErrLost", "copse/api.ErrFull", "copse/api.ErrDead", "copse/api.ErrCorrupt", "copse/api.ErrStatus", "copse/api.ErrTxid", "copse/api.ErrKind"], apart := false, laid := [("copse/api.ErrArg", laid_copse_api_ErrArg), ("copse/api.ErrText", laid_copse_api_ErrText), ("copse/api.ErrMany", laid_copse_api_ErrMany), ("copse/api.ErrShort", laid_copse_api_ErrShort), ("copse/api.ErrTwice", laid_copse_api_ErrTwice), ("copse/api.ErrLost", laid_copse_api_ErrLost), ("copse/api.ErrFull", laid_copse_api_ErrFull), ("copse/api.ErrDead", laid_copse_api_ErrDead), ("copse/api.ErrCorrupt", laid_copse_api_ErrCorrupt), ("copse/api.ErrStatus", laid_copse_api_ErrStatus), ("copse/api.ErrTxid", laid_copse_api_ErrTxid), ("copse/api.ErrOrder", laid_copse_api_ErrOrder), ("copse/api.ErrKind", laid_copse_api_ErrKind)] }
def BranchBackSaid : Prop := branchBackRow.holds Tryd.pinned (OpenSpec.ofChange branchBackSpec)

/-- ITS FALSE NEIGHBOUR: 'it returns false'. Refute it at one input. -/
def branchBackWrong : ChangeSpec := { name := "branchBack", fn := fun _ => fun
  | [d] => { results := [.lit (.bool false)], args := [d] }
  | _ => none }
def BranchBackWrongFalsely : Prop := branchBackRow.holds Tryd.pinned (OpenSpec.ofChange branchBackWrong)

/-- 'copselaw8.BranchOnly': WHATEVER THE INPUT: true; the input reads as it did. -/
def branchOnlySpec : ChangeSpec := { name := "branchOnly", fn := fun _ => fun
  | [d] => { results := [.lit (.bool true)], args := [d] }
  | _ => none }
def branchOnlyRow : OpenClaim := { program := "ytocggojbafediaadoor", sum := "79d10352fb4f11ac436922d4d2906ddb5033292c54fe588e45549183690ebeb4", func := "copse/copselaw8.BranchOnly", spec := "branchOnly", unfollowed := true, recurses := true, named := ["copse/api.ErrShort", "copse/api.ErrArg", "copse/api.ErrOrder", "copse/api.ErrTwice", "copse/api.ErrMany", "copse/api.ErrText", "copse/api.ErrLost", "copse/api.ErrFull", "copse/api.ErrDead", "copse/api.ErrCorrupt", "copse/api.ErrStatus", "copse/api.ErrTxid", "copse/api.ErrKind"], apart := false, laid := [("copse/api.ErrArg", laid_copse_api_ErrArg), ("copse/api.ErrText", laid_copse_api_ErrText), ("copse/api.ErrMany", laid_copse_api_ErrMany), ("copse/api.ErrShort", laid_copse_api_ErrShort), ("copse/api.ErrTwice", laid_copse_api_ErrTwice), ("copse/api.ErrLost", laid_copse_api_ErrLost), ("copse/api.ErrFull", laid_copse_api_ErrFull), ("copse/api.ErrDead", laid_copse_api_ErrDead), ("copse/api.ErrCorrupt", laid_copse_api_ErrCorrupt), ("copse/api.ErrStatus", laid_copse_api_ErrStatus), ("copse/api.ErrTxid", laid_copse_api_ErrTxid), ("copse/api.ErrOrder", laid_copse_api_ErrOrder), ("copse/api.ErrKind", laid_copse_api_ErrKind)] }
def BranchOnlySaid : Prop := branchOnlyRow.holds Tryd.pinned (OpenSpec.ofChange branchOnlySpec)

/-- ITS FALSE NEIGHBOUR: 'it returns false'. Refute it at one input. -/
def branchOnlyWrong : ChangeSpec := { name := "branchOnly", fn := fun _ => fun
  | [d] => { results := [.lit (.bool false)], args := [d] }
  | _ => none }
def BranchOnlyWrongFalsely : Prop := branchOnlyRow.holds Tryd.pinned (OpenSpec.ofChange branchOnlyWrong)

/-- 'copselaw8.BranchHalves': WHATEVER THE INPUT: true; the input reads as it did. -/
def branchHalvesSpec : ChangeSpec := { name := "branchHalves", fn := fun _ => fun
  | [d] => { results := [.lit (.bool true)], args := [d] }
  | _ => none }
def branchHalvesRow : OpenClaim := { program := "ytocggojbafediaadoor", sum := "79d10352fb4f11ac436922d4d2906ddb5033292c54fe588e45549183690ebeb4", func := "copse/copselaw8.BranchHalves", spec := "branchHalves", unfollowed := true, recurses := true, named := ["copse/api.ErrShort", "copse/api.ErrArg", "copse/api.ErrOrder", "copse/api.ErrTwice", "copse/api.ErrMany", "copse/api.ErrText", "copse/api.ErrLost", "copse/api.ErrFull", "copse/api.ErrDead", "copse/api.ErrCorrupt", "copse/api.ErrStatus", "copse/api.ErrTxid", "copse/api.ErrKind"], apart := false, laid := [("copse/api.ErrArg", laid_copse_api_ErrArg), ("copse/api.ErrText", laid_copse_api_ErrText), ("copse/api.ErrMany", laid_copse_api_ErrMany), ("copse/api.ErrShort", laid_copse_api_ErrShort), ("copse/api.ErrTwice", laid_copse_api_ErrTwice), ("copse/api.ErrLost", laid_copse_api_ErrLost), ("copse/api.ErrFull", laid_copse_api_ErrFull), ("copse/api.ErrDead", laid_copse_api_ErrDead), ("copse/api.ErrCorrupt", laid_copse_api_ErrCorrupt), ("copse/api.ErrStatus", laid_copse_api_ErrStatus), ("copse/api.ErrTxid", laid_copse_api_ErrTxid), ("copse/api.ErrOrder", laid_copse_api_ErrOrder), ("copse/api.ErrKind", laid_copse_api_ErrKind)] }
def BranchHalvesSaid : Prop := branchHalvesRow.holds Tryd.pinned (OpenSpec.ofChange branchHalvesSpec)

/-- ITS FALSE NEIGHBOUR: 'it returns false'. Refute it at one input. -/
def branchHalvesWrong : ChangeSpec := { name := "branchHalves", fn := fun _ => fun
  | [d] => { results := [.lit (.bool false)], args := [d] }
  | _ => none }
def BranchHalvesWrongFalsely : Prop := branchHalvesRow.holds Tryd.pinned (OpenSpec.ofChange branchHalvesWrong)

/-- 'copselaw8.BranchMemory': WHATEVER THE INPUT: true; the input reads as it did. -/
def branchMemorySpec : ChangeSpec := { name := "branchMemory", fn := fun _ => fun
  | [d] => { results := [.lit (.bool true)], args := [d] }
  | _ => none }
def branchMemoryRow : OpenClaim := { program := "ytocggojbafediaadoor", sum := "79d10352fb4f11ac436922d4d2906ddb5033292c54fe588e45549183690ebeb4", func := "copse/copselaw8.BranchMemory", spec := "branchMemory", inPlace := ["slices.overlaps[copse/api.Link]"], unfollowed := true, recurses := true, named := ["copse/api.ErrShort", "copse/api.ErrArg", "copse/api.ErrOrder", "copse/api.ErrTwice", "copse/api.ErrMany", "copse/api.ErrText", "copse/api.ErrLost", "copse/api.ErrFull", "copse/api.ErrDead", "copse/api.ErrCorrupt", "copse/api.ErrStatus", "copse/api.ErrTxid", "copse/api.ErrKind"], apart := false, laid := [("copse/api.ErrArg", laid_copse_api_ErrArg), ("copse/api.ErrText", laid_copse_api_ErrText), ("copse/api.ErrMany", laid_copse_api_ErrMany), ("copse/api.ErrShort", laid_copse_api_ErrShort), ("copse/api.ErrTwice", laid_copse_api_ErrTwice), ("copse/api.ErrLost", laid_copse_api_ErrLost), ("copse/api.ErrFull", laid_copse_api_ErrFull), ("copse/api.ErrDead", laid_copse_api_ErrDead), ("copse/api.ErrCorrupt", laid_copse_api_ErrCorrupt), ("copse/api.ErrStatus", laid_copse_api_ErrStatus), ("copse/api.ErrTxid", laid_copse_api_ErrTxid), ("copse/api.ErrOrder", laid_copse_api_ErrOrder), ("copse/api.ErrKind", laid_copse_api_ErrKind)] }
def BranchMemorySaid : Prop := branchMemoryRow.holds Tryd.pinned (OpenSpec.ofChange branchMemorySpec)

/-- ITS FALSE NEIGHBOUR: 'it returns false'. Refute it at one input. -/
def branchMemoryWrong : ChangeSpec := { name := "branchMemory", fn := fun _ => fun
  | [d] => { results := [.lit (.bool false)], args := [d] }
  | _ => none }
def BranchMemoryWrongFalsely : Prop := branchMemoryRow.holds Tryd.pinned (OpenSpec.ofChange branchMemoryWrong)

/-- 'copselaw15.ScriptWords': WHATEVER THE INPUT: true; the input reads as it did. -/
def scriptWordsSpec : ChangeSpec := { name := "scriptWords", fn := fun _ => fun
  | [d] => { results := [.lit (.bool true)], args := [d] }
  | _ => none }
def scriptWordsRow : OpenClaim := { program := "ytocggojbafediaadoor", sum := "79d10352fb4f11ac436922d4d2906ddb5033292c54fe588e45549183690ebeb4", func := "copse/copselaw15.ScriptWords", spec := "scriptWords", inPlace := ["internal/bytealg.IndexByteString", "internal/bytealg.IndexString", "internal/abi.NoEscape"], unfollowed := true, recurses := true, named := ["copse/api.ErrText", "unicode/utf8.first", "unicode/utf8.acceptRanges", "copse/api.ErrArg", "copse/api.ErrMany", "copse/api.ErrShort", "copse/api.ErrTwice", "copse/api.ErrLost", "copse/api.ErrFull", "copse/api.ErrDead", "copse/api.ErrCorrupt", "copse/api.ErrStatus", "copse/api.ErrTxid", "copse/api.ErrOrder", "copse/api.ErrKind", "internal/bytealg.MaxLen"], apart := false, laid := [("unicode/utf8.acceptRanges", laid_unicode_utf8_acceptRanges), ("copse/api.ErrArg", laid_copse_api_ErrArg), ("copse/api.ErrText", laid_copse_api_ErrText), ("copse/api.ErrMany", laid_copse_api_ErrMany), ("copse/api.ErrShort", laid_copse_api_ErrShort), ("copse/api.ErrTwice", laid_copse_api_ErrTwice), ("copse/api.ErrLost", laid_copse_api_ErrLost), ("copse/api.ErrFull", laid_copse_api_ErrFull), ("copse/api.ErrDead", laid_copse_api_ErrDead), ("copse/api.ErrCorrupt", laid_copse_api_ErrCorrupt), ("copse/api.ErrStatus", laid_copse_api_ErrStatus), ("copse/api.ErrTxid", laid_copse_api_ErrTxid), ("copse/api.ErrOrder", laid_copse_api_ErrOrder), ("copse/api.ErrKind", laid_copse_api_ErrKind), ("unicode/utf8.first", laid_unicode_utf8_first)] }
def ScriptWordsSaid : Prop := scriptWordsRow.holds Tryd.pinned (OpenSpec.ofChange scriptWordsSpec)

/-- ITS FALSE NEIGHBOUR: 'it returns false'. Refute it at one input. -/
def scriptWordsWrong : ChangeSpec := { name := "scriptWords", fn := fun _ => fun
  | [d] => { results := [.lit (.bool false)], args := [d] }
  | _ => none }
def ScriptWordsWrongFalsely : Prop := scriptWordsRow.holds Tryd.pinned (OpenSpec.ofChange scriptWordsWrong)

/-- 'copselaw15.ScriptQuote': WHATEVER THE INPUT: true; the input reads as it did. -/
def scriptQuoteSpec : ChangeSpec := { name := "scriptQuote", fn := fun _ => fun
  | [d] => { results := [.lit (.bool true)], args := [d] }
  | _ => none }
def scriptQuoteRow : OpenClaim := { program := "ytocggojbafediaadoor", sum := "79d10352fb4f11ac436922d4d2906ddb5033292c54fe588e45549183690ebeb4", func := "copse/copselaw15.ScriptQuote", spec := "scriptQuote", inPlace := ["internal/abi.NoEscape", "internal/bytealg.IndexByteString", "internal/bytealg.IndexString"], unfollowed := true, recurses := true, named := ["copse/api.ErrText", "unicode/utf8.first", "unicode/utf8.acceptRanges", "internal/bytealg.MaxLen"], apart := false, laid := [("unicode/utf8.acceptRanges", laid_unicode_utf8_acceptRanges), ("copse/api.ErrText", laid_copse_api_ErrText), ("unicode/utf8.first", laid_unicode_utf8_first)] }
def ScriptQuoteSaid : Prop := scriptQuoteRow.holds Tryd.pinned (OpenSpec.ofChange scriptQuoteSpec)

/-- ITS FALSE NEIGHBOUR: 'it returns false'. Refute it at one input. -/
def scriptQuoteWrong : ChangeSpec := { name := "scriptQuote", fn := fun _ => fun
  | [d] => { results := [.lit (.bool false)], args := [d] }
  | _ => none }
def ScriptQuoteWrongFalsely : Prop := scriptQuoteRow.holds Tryd.pinned (OpenSpec.ofChange scriptQuoteWrong)

/- THE SECOND FORM. 'bulk': how many values and letters a reading holds, each counted each time it is reached (what is shared counts as often as it is met; a slice's spare places count too). A statement '..UptoSaid' is the law's where the arguments, and the package variables that the reading takes, are together of bulk at most 1048576: NARROWER than '..Said'. Prove '..Said' where nothing that the law and all that it calls make is longer than what came in: it says more and counts as full. Else prove '..UptoSaid'. A law counts once. -/
mutual
def uptoBulk {H : Type} : DataW H → Nat
  | .lit (.string bytes) => bytes.length + 1
  | .lit _ => 1
  | .nil => 1
  | .ptr d => uptoBulk d + 1
  | .slice elems spare => uptoBulkAll elems + uptoBulkAll spare + 1
  | .agg parts => uptoBulkAll parts + 1
  | .iface _ d => uptoBulk d + 1
  | .map entries => uptoBulkEntries entries + 1
  | .held _ => 1
def uptoBulkAll {H : Type} : List (DataW H) → Nat
  | [] => 0
  | d :: r => uptoBulk d + uptoBulkAll r
def uptoBulkEntries {H : Type} : List (Lit × DataW H) → Nat
  | [] => 0
  | x :: r => uptoBulkEntry x + uptoBulkEntries r
def uptoBulkEntry {H : Type} : Lit × DataW H → Nat
  | (.string bytes, d) => bytes.length + uptoBulk d + 1
  | (_, d) => uptoBulk d + 1
 end
def uptoSmall : (H : Type) → List (DataW H) → Bool := fun _ ds => decide (uptoBulkAll ds ≤ 1048576)
def OpenSpec.upto (s : _root_.Go.ChangeSpec) : _root_.Go.OpenSpec := { _root_.Go.OpenSpec.ofChange s with cond := some uptoSmall }

/-- 'copselaw8.BranchCuts', WHERE WHAT IT READS IS OF BULK AT MOST 1048576: true; the input reads as it did. -/
def branchCutsUptoRow : OpenClaim := { program := "ytocggojbafediaadoor", sum := "79d10352fb4f11ac436922d4d2906ddb5033292c54fe588e45549183690ebeb4", func := "copse/copselaw8.BranchCuts", spec := "branchCuts", unfollowed := true, recurses := true, named := ["copse/api.ErrShort", "copse/api.ErrArg", "copse/api.ErrText", "copse/api.ErrMany", "copse/api.ErrTwice", "copse/api.ErrLost", "copse/api.ErrFull", "copse/api.ErrDead", "copse/api.ErrCorrupt", "copse/api.ErrStatus", "copse/api.ErrTxid", "copse/api.ErrOrder", "copse/api.ErrKind"], apart := false, laid := [("copse/api.ErrArg", laid_copse_api_ErrArg), ("copse/api.ErrText", laid_copse_api_ErrText), ("copse/api.ErrMany", laid_copse_api_ErrMany), ("copse/api.ErrShort", laid_copse_api_ErrShort), ("copse/api.ErrTwice", laid_copse_api_ErrTwice), ("copse/api.ErrLost", laid_copse_api_ErrLost), ("copse/api.ErrFull", laid_copse_api_ErrFull), ("copse/api.ErrDead", laid_copse_api_ErrDead), ("copse/api.ErrCorrupt", laid_copse_api_ErrCorrupt), ("copse/api.ErrStatus", laid_copse_api_ErrStatus), ("copse/api.ErrTxid", laid_copse_api_ErrTxid), ("copse/api.ErrOrder", laid_copse_api_ErrOrder), ("copse/api.ErrKind", laid_copse_api_ErrKind)], narrowed := true }
def BranchCutsUptoSaid : Prop := branchCutsUptoRow.holds Tryd.pinned (OpenSpec.upto branchCutsSpec)

/-- 'copselaw8.BranchEdit', WHERE WHAT IT READS IS OF BULK AT MOST 1048576: true; the input reads as it did. -/
def branchEditUptoRow : OpenClaim := { program := "ytocggojbafediaadoor", sum := "79d10352fb4f11ac436922d4d2906ddb5033292c54fe588e45549183690ebeb4", func := "copse/copselaw8.BranchEdit", spec := "branchEdit", inPlace := ["slices.overlaps[copse/api.Link]"], named := ["copse/api.ErrArg"], apart := false, laid := [("copse/api.ErrArg", laid_copse_api_ErrArg)], narrowed := true }
def BranchEditUptoSaid : Prop := branchEditUptoRow.holds Tryd.pinned (OpenSpec.upto branchEditSpec)

/-- 'copselaw8.BranchEdits', WHERE WHAT IT READS IS OF BULK AT MOST 1048576: true; the input reads as it did. -/
def branchEditsUptoRow : OpenClaim := { program := "ytocggojbafediaadoor", sum := "79d10352fb4f11ac436922d4d2906ddb5033292c54fe588e45549183690ebeb4", func := "copse/copselaw8.BranchEdits", spec := "branchEdits", inPlace := ["slices.overlaps[copse/api.Link]"], unfollowed := true, recurses := true, named := ["copse/api.ErrArg", "copse/api.ErrText", "copse/api.ErrMany", "copse/api.ErrShort", "copse/api.ErrTwice", "copse/api.ErrLost", "copse/api.ErrFull", "copse/api.ErrDead", "copse/api.ErrCorrupt", "copse/api.ErrStatus", "copse/api.ErrTxid", "copse/api.ErrOrder", "copse/api.ErrKind"], apart := false, laid := [("copse/api.ErrArg", laid_copse_api_ErrArg), ("copse/api.ErrText", laid_copse_api_ErrText), ("copse/api.ErrMany", laid_copse_api_ErrMany), ("copse/api.ErrShort", laid_copse_api_ErrShort), ("copse/api.ErrTwice", laid_copse_api_ErrTwice), ("copse/api.ErrLost", laid_copse_api_ErrLost), ("copse/api.ErrFull", laid_copse_api_ErrFull), ("copse/api.ErrDead", laid_copse_api_ErrDead), ("copse/api.ErrCorrupt", laid_copse_api_ErrCorrupt), ("copse/api.ErrStatus", laid_copse_api_ErrStatus), ("copse/api.ErrTxid", laid_copse_api_ErrTxid), ("copse/api.ErrOrder", laid_copse_api_ErrOrder), ("copse/api.ErrKind", laid_copse_api_ErrKind)], narrowed := true }
def BranchEditsUptoSaid : Prop := branchEditsUptoRow.holds Tryd.pinned (OpenSpec.upto branchEditsSpec)

/-- 'copselaw8.BranchChecks', WHERE WHAT IT READS IS OF BULK AT MOST 1048576: true; the input reads as it did. -/
def branchChecksUptoRow : OpenClaim := { program := "ytocggojbafediaadoor", sum := "79d10352fb4f11ac436922d4d2906ddb5033292c54fe588e45549183690ebeb4", func := "copse/copselaw8.BranchChecks", spec := "branchChecks", unfollowed := true, recurses := true, named := ["copse/api.ErrShort", "copse/api.ErrArg", "copse/api.ErrOrder", "copse/api.ErrTwice", "copse/api.ErrMany", "copse/api.ErrText", "copse/api.ErrLost", "copse/api.ErrFull", "copse/api.ErrDead", "copse/api.ErrCorrupt", "copse/api.ErrStatus", "copse/api.ErrTxid", "copse/api.ErrKind"], apart := false, laid := [("copse/api.ErrArg", laid_copse_api_ErrArg), ("copse/api.ErrText", laid_copse_api_ErrText), ("copse/api.ErrMany", laid_copse_api_ErrMany), ("copse/api.ErrShort", laid_copse_api_ErrShort), ("copse/api.ErrTwice", laid_copse_api_ErrTwice), ("copse/api.ErrLost", laid_copse_api_ErrLost), ("copse/api.ErrFull", laid_copse_api_ErrFull), ("copse/api.ErrDead", laid_copse_api_ErrDead), ("copse/api.ErrCorrupt", laid_copse_api_ErrCorrupt), ("copse/api.ErrStatus", laid_copse_api_ErrStatus), ("copse/api.ErrTxid", laid_copse_api_ErrTxid), ("copse/api.ErrOrder", laid_copse_api_ErrOrder), ("copse/api.ErrKind", laid_copse_api_ErrKind)], narrowed := true }
def BranchChecksUptoSaid : Prop := branchChecksUptoRow.holds Tryd.pinned (OpenSpec.upto branchChecksSpec)

/-- 'copselaw8.BranchEncodes', WHERE WHAT IT READS IS OF BULK AT MOST 1048576: true; the input reads as it did. -/
def branchEncodesUptoRow : OpenClaim := { program := "ytocggojbafediaadoor", sum := "79d10352fb4f11ac436922d4d2906ddb5033292c54fe588e45549183690ebeb4", func := "copse/copselaw8.BranchEncodes", spec := "branchEncodes", unfollowed := true, recurses := true, named := ["copse/api.ErrShort", "copse/api.ErrArg", "copse/api.ErrOrder", "copse/api.ErrTwice", "copse/api.ErrMany", "copse/api.ErrText", "copse/api.ErrLost", "copse/api.ErrFull", "copse/api.ErrDead", "copse/api.ErrCorrupt", "copse/api.ErrStatus", "copse/api.ErrTxid", "copse/api.ErrKind"], apart := false, laid := [("copse/api.ErrArg", laid_copse_api_ErrArg), ("copse/api.ErrText", laid_copse_api_ErrText), ("copse/api.ErrMany", laid_copse_api_ErrMany), ("copse/api.ErrShort", laid_copse_api_ErrShort), ("copse/api.ErrTwice", laid_copse_api_ErrTwice), ("copse/api.ErrLost", laid_copse_api_ErrLost), ("copse/api.ErrFull", laid_copse_api_ErrFull), ("copse/api.ErrDead", laid_copse_api_ErrDead), ("copse/api.ErrCorrupt", laid_copse_api_ErrCorrupt), ("copse/api.ErrStatus", laid_copse_api_ErrStatus), ("copse/api.ErrTxid", laid_copse_api_ErrTxid), ("copse/api.ErrOrder", laid_copse_api_ErrOrder), ("copse/api.ErrKind", laid_copse_api_ErrKind)], narrowed := true }
def BranchEncodesUptoSaid : Prop := branchEncodesUptoRow.holds Tryd.pinned (OpenSpec.upto branchEncodesSpec)

/-- 'copselaw8.BranchDecodes', WHERE WHAT IT READS IS OF BULK AT MOST 1048576: true; the input reads as it did. -/
def branchDecodesUptoRow : OpenClaim := { program := "ytocggojbafediaadoor", sum := "79d10352fb4f11ac436922d4d2906ddb5033292c54fe588e45549183690ebeb4", func := "copse/copselaw8.BranchDecodes", spec := "branchDecodes", unfollowed := true, recurses := true, named := ["copse/api.ErrText", "copse/api.ErrArg", "copse/api.ErrShort", "copse/api.ErrOrder", "copse/api.ErrTwice", "copse/api.ErrMany", "copse/api.ErrLost", "copse/api.ErrFull", "copse/api.ErrDead", "copse/api.ErrCorrupt", "copse/api.ErrStatus", "copse/api.ErrTxid", "copse/api.ErrKind"], apart := false, laid := [("copse/api.ErrArg", laid_copse_api_ErrArg), ("copse/api.ErrText", laid_copse_api_ErrText), ("copse/api.ErrMany", laid_copse_api_ErrMany), ("copse/api.ErrShort", laid_copse_api_ErrShort), ("copse/api.ErrTwice", laid_copse_api_ErrTwice), ("copse/api.ErrLost", laid_copse_api_ErrLost), ("copse/api.ErrFull", laid_copse_api_ErrFull), ("copse/api.ErrDead", laid_copse_api_ErrDead), ("copse/api.ErrCorrupt", laid_copse_api_ErrCorrupt), ("copse/api.ErrStatus", laid_copse_api_ErrStatus), ("copse/api.ErrTxid", laid_copse_api_ErrTxid), ("copse/api.ErrOrder", laid_copse_api_ErrOrder), ("copse/api.ErrKind", laid_copse_api_ErrKind)], narrowed := true }
def BranchDecodesUptoSaid : Prop := branchDecodesUptoRow.holds Tryd.pinned (OpenSpec.upto branchDecodesSpec)

/-- 'copselaw8.BranchBack', WHERE WHAT IT READS IS OF BULK AT MOST 1048576: true; the input reads as it did. -/
def branchBackUptoRow : OpenClaim := { program := "ytocggojbafediaadoor", sum := "79d10352fb4f11ac436922d4d2906ddb5033292c54fe588e45549183690ebeb4", func := "copse/copselaw8.BranchBack", spec := "branchBack", unfollowed := true, recurses := true, named := ["copse/api.ErrShort", "copse/api.ErrArg", "copse/api.ErrOrder", "copse/api.ErrTwice", "copse/api.ErrMany", "copse/api.ErrText", "copse/api.ErrLost", "copse/api.ErrFull", "copse/api.ErrDead", "copse/api.ErrCorrupt", "copse/api.ErrStatus", "copse/api.ErrTxid", "copse/api.ErrKind"], apart := false, laid := [("copse/api.ErrArg", laid_copse_api_ErrArg), ("copse/api.ErrText", laid_copse_api_ErrText), ("copse/api.ErrMany", laid_copse_api_ErrMany), ("copse/api.ErrShort", laid_copse_api_ErrShort), ("copse/api.ErrTwice", laid_copse_api_ErrTwice), ("copse/api.ErrLost", laid_copse_api_ErrLost), ("copse/api.ErrFull", laid_copse_api_ErrFull), ("copse/api.ErrDead", laid_copse_api_ErrDead), ("copse/api.ErrCorrupt", laid_copse_api_ErrCorrupt), ("copse/api.ErrStatus", laid_copse_api_ErrStatus), ("copse/api.ErrTxid", laid_copse_api_ErrTxid), ("copse/api.ErrOrder", laid_copse_api_ErrOrder), ("copse/api.ErrKind", laid_copse_api_ErrKind)], narrowed := true }
def BranchBackUptoSaid : Prop := branchBackUptoRow.holds Tryd.pinned (OpenSpec.upto branchBackSpec)

/-- 'copselaw8.BranchOnly', WHERE WHAT IT READS IS OF BULK AT MOST 1048576: true; the input reads as it did. -/
def branchOnlyUptoRow : OpenClaim := { program := "ytocggojbafediaadoor", sum := "79d10352fb4f11ac436922d4d2906ddb5033292c54fe588e45549183690ebeb4", func := "copse/copselaw8.BranchOnly", spec := "branchOnly", unfollowed := true, recurses := true, named := ["copse/api.ErrShort", "copse/api.ErrArg", "copse/api.ErrOrder", "copse/api.ErrTwice", "copse/api.ErrMany", "copse/api.ErrText", "copse/api.ErrLost", "copse/api.ErrFull", "copse/api.ErrDead", "copse/api.ErrCorrupt", "copse/api.ErrStatus", "copse/api.ErrTxid", "copse/api.ErrKind"], apart := false, laid := [("copse/api.ErrArg", laid_copse_api_ErrArg), ("copse/api.ErrText", laid_copse_api_ErrText), ("copse/api.ErrMany", laid_copse_api_ErrMany), ("copse/api.ErrShort", laid_copse_api_ErrShort), ("copse/api.ErrTwice", laid_copse_api_ErrTwice), ("copse/api.ErrLost", laid_copse_api_ErrLost), ("copse/api.ErrFull", laid_copse_api_ErrFull), ("copse/api.ErrDead", laid_copse_api_ErrDead), ("copse/api.ErrCorrupt", laid_copse_api_ErrCorrupt), ("copse/api.ErrStatus", laid_copse_api_ErrStatus), ("copse/api.ErrTxid", laid_copse_api_ErrTxid), ("copse/api.ErrOrder", laid_copse_api_ErrOrder), ("copse/api.ErrKind", laid_copse_api_ErrKind)], narrowed := true }
def BranchOnlyUptoSaid : Prop := branchOnlyUptoRow.holds Tryd.pinned (OpenSpec.upto branchOnlySpec)

/-- 'copselaw8.BranchHalves', WHERE WHAT IT READS IS OF BULK AT MOST 1048576: true; the input reads as it did. -/
def branchHalvesUptoRow : OpenClaim := { program := "ytocggojbafediaadoor", sum := "79d10352fb4f11ac436922d4d2906ddb5033292c54fe588e45549183690ebeb4", func := "copse/copselaw8.BranchHalves", spec := "branchHalves", unfollowed := true, recurses := true, named := ["copse/api.ErrShort", "copse/api.ErrArg", "copse/api.ErrOrder", "copse/api.ErrTwice", "copse/api.ErrMany", "copse/api.ErrText", "copse/api.ErrLost", "copse/api.ErrFull", "copse/api.ErrDead", "copse/api.ErrCorrupt", "copse/api.ErrStatus", "copse/api.ErrTxid", "copse/api.ErrKind"], apart := false, laid := [("copse/api.ErrArg", laid_copse_api_ErrArg), ("copse/api.ErrText", laid_copse_api_ErrText), ("copse/api.ErrMany", laid_copse_api_ErrMany), ("copse/api.ErrShort", laid_copse_api_ErrShort), ("copse/api.ErrTwice", laid_copse_api_ErrTwice), ("copse/api.ErrLost", laid_copse_api_ErrLost), ("copse/api.ErrFull", laid_copse_api_ErrFull), ("copse/api.ErrDead", laid_copse_api_ErrDead), ("copse/api.ErrCorrupt", laid_copse_api_ErrCorrupt), ("copse/api.ErrStatus", laid_copse_api_ErrStatus), ("copse/api.ErrTxid", laid_copse_api_ErrTxid), ("copse/api.ErrOrder", laid_copse_api_ErrOrder), ("copse/api.ErrKind", laid_copse_api_ErrKind)], narrowed := true }
def BranchHalvesUptoSaid : Prop := branchHalvesUptoRow.holds Tryd.pinned (OpenSpec.upto branchHalvesSpec)

/-- 'copselaw8.BranchMemory', WHERE WHAT IT READS IS OF BULK AT MOST 1048576: true; the input reads as it did. -/
def branchMemoryUptoRow : OpenClaim := { program := "ytocggojbafediaadoor", sum := "79d10352fb4f11ac436922d4d2906ddb5033292c54fe588e45549183690ebeb4", func := "copse/copselaw8.BranchMemory", spec := "branchMemory", inPlace := ["slices.overlaps[copse/api.Link]"], unfollowed := true, recurses := true, named := ["copse/api.ErrShort", "copse/api.ErrArg", "copse/api.ErrOrder", "copse/api.ErrTwice", "copse/api.ErrMany", "copse/api.ErrText", "copse/api.ErrLost", "copse/api.ErrFull", "copse/api.ErrDead", "copse/api.ErrCorrupt", "copse/api.ErrStatus", "copse/api.ErrTxid", "copse/api.ErrKind"], apart := false, laid := [("copse/api.ErrArg", laid_copse_api_ErrArg), ("copse/api.ErrText", laid_copse_api_ErrText), ("copse/api.ErrMany", laid_copse_api_ErrMany), ("copse/api.ErrShort", laid_copse_api_ErrShort), ("copse/api.ErrTwice", laid_copse_api_ErrTwice), ("copse/api.ErrLost", laid_copse_api_ErrLost), ("copse/api.ErrFull", laid_copse_api_ErrFull), ("copse/api.ErrDead", laid_copse_api_ErrDead), ("copse/api.ErrCorrupt", laid_copse_api_ErrCorrupt), ("copse/api.ErrStatus", laid_copse_api_ErrStatus), ("copse/api.ErrTxid", laid_copse_api_ErrTxid), ("copse/api.ErrOrder", laid_copse_api_ErrOrder), ("copse/api.ErrKind", laid_copse_api_ErrKind)], narrowed := true }
def BranchMemoryUptoSaid : Prop := branchMemoryUptoRow.holds Tryd.pinned (OpenSpec.upto branchMemorySpec)

/-- 'copselaw15.ScriptWords', WHERE WHAT IT READS IS OF BULK AT MOST 1048576: true; the input reads as it did. -/
def scriptWordsUptoRow : OpenClaim := { program := "ytocggojbafediaadoor", sum := "79d10352fb4f11ac436922d4d2906ddb5033292c54fe588e45549183690ebeb4", func := "copse/copselaw15.ScriptWords", spec := "scriptWords", inPlace := ["internal/bytealg.IndexByteString", "internal/bytealg.IndexString", "internal/abi.NoEscape"], unfollowed := true, recurses := true, named := ["copse/api.ErrText", "unicode/utf8.first", "unicode/utf8.acceptRanges", "copse/api.ErrArg", "copse/api.ErrMany", "copse/api.ErrShort", "copse/api.ErrTwice", "copse/api.ErrLost", "copse/api.ErrFull", "copse/api.ErrDead", "copse/api.ErrCorrupt", "copse/api.ErrStatus", "copse/api.ErrTxid", "copse/api.ErrOrder", "copse/api.ErrKind", "internal/bytealg.MaxLen"], apart := false, laid := [("unicode/utf8.acceptRanges", laid_unicode_utf8_acceptRanges), ("copse/api.ErrArg", laid_copse_api_ErrArg), ("copse/api.ErrText", laid_copse_api_ErrText), ("copse/api.ErrMany", laid_copse_api_ErrMany), ("copse/api.ErrShort", laid_copse_api_ErrShort), ("copse/api.ErrTwice", laid_copse_api_ErrTwice), ("copse/api.ErrLost", laid_copse_api_ErrLost), ("copse/api.ErrFull", laid_copse_api_ErrFull), ("copse/api.ErrDead", laid_copse_api_ErrDead), ("copse/api.ErrCorrupt", laid_copse_api_ErrCorrupt), ("copse/api.ErrStatus", laid_copse_api_ErrStatus), ("copse/api.ErrTxid", laid_copse_api_ErrTxid), ("copse/api.ErrOrder", laid_copse_api_ErrOrder), ("copse/api.ErrKind", laid_copse_api_ErrKind), ("unicode/utf8.first", laid_unicode_utf8_first)], narrowed := true }
def ScriptWordsUptoSaid : Prop := scriptWordsUptoRow.holds Tryd.pinned (OpenSpec.upto scriptWordsSpec)

/-- 'copselaw15.ScriptQuote', WHERE WHAT IT READS IS OF BULK AT MOST 1048576: true; the input reads as it did. -/
def scriptQuoteUptoRow : OpenClaim := { program := "ytocggojbafediaadoor", sum := "79d10352fb4f11ac436922d4d2906ddb5033292c54fe588e45549183690ebeb4", func := "copse/copselaw15.ScriptQuote", spec := "scriptQuote", inPlace := ["internal/abi.NoEscape", "internal/bytealg.IndexByteString", "internal/bytealg.IndexString"], unfollowed := true, recurses := true, named := ["copse/api.ErrText", "unicode/utf8.first", "unicode/utf8.acceptRanges", "internal/bytealg.MaxLen"], apart := false, laid := [("unicode/utf8.acceptRanges", laid_unicode_utf8_acceptRanges), ("copse/api.ErrText", laid_copse_api_ErrText), ("unicode/utf8.first", laid_unicode_utf8_first)], narrowed := true }
def ScriptQuoteUptoSaid : Prop := scriptQuoteUptoRow.holds Tryd.pinned (OpenSpec.upto scriptQuoteSpec)

end Rows
end Go.Proofs.YtocggojbafediaaDoor
