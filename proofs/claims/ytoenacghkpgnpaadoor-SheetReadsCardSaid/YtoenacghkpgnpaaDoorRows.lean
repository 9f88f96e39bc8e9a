/-
  NARROWER THAN 'FOR EVERY INPUT', by the rows' own cells (each row's printed sentence says how): MetaEncodes: laid · SheetSeals: laid · MetaDecodes: laid · SheetReads: laid · SheetBack: laid · SheetBursts: laid · MetaBack: laid · MetaOnly: laid · MetaBurst: laid · MetaChooses: laid · MetaMemory: laid · SheetLasts: laid · MetaTurns: laid.
  DERIVED. THE GIVEN ROWS OF THIS SEAT. 13 by the template 'for every input the law returns true; each argument reads behind the call as it read before'; 0 by the template 'total and deterministic' (their statements: YtoenacghkpgnpaaDoorTotals.lean).
  GIVEN WITH THE SEED: the statements are not yours to turn. If you find one false, say at which input.
  Laid BY PROGRAM, IN A SANDBOX (cutbox-rows.mjs): the forced cells as the released guide's own fill.sh prints them over the translation 032b6bf66f6b3817… (all of the seat's roots in one cut). By AI agents, Wed Nov 11 2026. No macro, syntax, notation, axiom, sorry.
-/
import Derived.Test.YtoenacghkpgnpaaDoorChecked
import GoSem.Claim
import GoSem.ClaimJoined
import GoSem.ClaimMapViews
import Derived.JoinedTies
import Derived.KernelRfl
namespace Go.Proofs.YtoenacghkpgnpaaDoor
/- THE CELL 'sum', in the pinned program and in every row, IS THE sha256 OF THE DUMP (.gsa) THAT YtoenacghkpgnpaaDoorProg.lean LOADS. Nothing in Lean hashes anything: it is a label: what it is worth is what the hold of that sum in a sandbox is worth. -/
noncomputable def Tryd.pinned : Pinned := { name := "ytoenacghkpgnpaadoor", sum := "032b6bf66f6b3817721e8dc8e9dff08fa1c27dfa4d4936ab0a2bcc5280f02a67", checked := Tryd.checked }
namespace Rows
def none {H : Type} : Left H := { results := [], args := [] }

/- WHAT THE LISTED PACKAGE-LEVEL VARIABLES READ AS WHEN THE CALL BEGINS. Each datum BY PROGRAM (the guide's laid-datum.mjs) off the statement by which the dump's own 'gosem.cut.vars' lays the variable. In a bare row this is a premise. The card (YtoenacghkpgnpaaDoorCards.lean) ties it to the program's text. -/
def laid_copse_api_ErrArg {H : Type} : DataW H := .iface "*errors.errorString" (.ptr (.agg [.lit (.string [97, 32, 110, 117, 109, 98, 101, 114, 32, 111, 114, 32, 97, 110, 32, 97, 114, 103, 117, 109, 101, 110, 116, 32, 105, 115, 32, 111, 117, 116, 32, 111, 102, 32, 105, 116, 115, 32, 112, 108, 97, 99, 101])]))
def laid_copse_api_ErrText {H : Type} : DataW H := .iface "*errors.errorString" (.ptr (.agg [.lit (.string [97, 32, 116, 101, 120, 116, 32, 111, 114, 32, 98, 121, 116, 101, 115, 32, 116, 104, 97, 116, 32, 99, 97, 110, 110, 111, 116, 32, 98, 101, 32, 114, 101, 97, 100])]))
def laid_copse_api_ErrMany {H : Type} : DataW H := .iface "*errors.errorString" (.ptr (.agg [.lit (.string [97, 98, 111, 118, 101, 32, 97, 32, 108, 105, 109, 105, 116])]))
def laid_copse_api_ErrShort {H : Type} : DataW H := .iface "*errors.errorString" (.ptr (.agg [.lit (.string [115, 111, 109, 101, 116, 104, 105, 110, 103, 32, 105, 115, 32, 109, 105, 115, 115, 105, 110, 103])]))
def laid_copse_api_ErrTwice {H : Type} : DataW H := .iface "*errors.errorString" (.ptr (.agg [.lit (.string [116, 104, 101, 114, 101, 32, 116, 119, 105, 99, 101])]))
def laid_copse_api_ErrLost {H : Type} : DataW H := .iface "*errors.errorString" (.ptr (.agg [.lit (.string [110, 111, 116, 32, 116, 104, 101, 114, 101])]))
def laid_copse_api_ErrFull {H : Type} : DataW H := .iface "*errors.errorString" (.ptr (.agg [.lit (.string [110, 111, 32, 114, 111, 111, 109, 32, 111, 110, 32, 116, 104, 101, 32, 100, 101, 118, 105, 99, 101])]))
def laid_copse_api_ErrDead {H : Type} : DataW H := .iface "*errors.errorString" (.ptr (.agg [.lit (.string [116, 104, 101, 32, 112, 111, 119, 101, 114, 32, 104, 97, 115, 32, 102, 97, 105, 108, 101, 100])]))
def laid_copse_api_ErrCorrupt {H : Type} : DataW H := .iface "*errors.errorString" (.ptr (.agg [.lit (.string [110, 111, 116, 32, 97, 32, 115, 116, 111, 114, 101])]))
def laid_copse_api_ErrStatus {H : Type} : DataW H := .iface "*errors.errorString" (.ptr (.agg [.lit (.string [110, 111, 116, 32, 110, 111, 119])]))
def laid_copse_api_ErrTxid {H : Type} : DataW H := .iface "*errors.errorString" (.ptr (.agg [.lit (.string [110, 111, 32, 102, 117, 114, 116, 104, 101, 114, 32, 116, 114, 97, 110, 115, 97, 99, 116, 105, 111, 110, 32, 104, 97, 115, 32, 97, 32, 110, 117, 109, 98, 101, 114])]))
def laid_copse_api_ErrOrder {H : Type} : DataW H := .iface "*errors.errorString" (.ptr (.agg [.lit (.string [110, 111, 116, 32, 105, 110, 32, 111, 114, 100, 101, 114])]))
def laid_copse_api_ErrKind {H : Type} : DataW H := .iface "*errors.errorString" (.ptr (.agg [.lit (.string [111, 102, 32, 97, 110, 111, 116, 104, 101, 114, 32, 107, 105, 110, 100])]))
def laid_copse_codec_steps {H : Type} : DataW H := .agg [.lit (.int .u32 0), .lit (.int .u32 274646895), .lit (.int .u32 549293790), .lit (.int .u32 820201905), .lit (.int .u32 1098587580), .lit (.int .u32 1361435347), .lit (.int .u32 1640403810), .lit (.int .u32 1905808397), .lit (.int .u32 2197175160), .lit (.int .u32 2460548119), .lit (.int .u32 2722870694), .lit (.int .u32 2987750089), .lit (.int .u32 3280807620), .lit (.int .u32 3553878443), .lit (.int .u32 3811616794), .lit (.int .u32 4084100981)]
def laid_copse_sheet_head {H : Type} : DataW H := .agg [.agg [.lit (.int .i64 0), .lit (.int .i64 1)], .agg [.lit (.int .i64 2), .lit (.int .i64 2)], .agg [.lit (.int .i64 4), .lit (.int .i64 4)], .agg [.lit (.int .i64 8), .lit (.int .i64 8)]]

/-- 'copselaw5.MetaEncodes': WHATEVER THE INPUT: true; the input reads as it did. -/
def metaEncodesSpec : ChangeSpec := { name := "metaEncodes", fn := fun _ => fun
  | [d] => { results := [.lit (.bool true)], args := [d] }
  | _ => none }
def metaEncodesRow : OpenClaim := { program := "ytoenacghkpgnpaadoor", sum := "032b6bf66f6b3817721e8dc8e9dff08fa1c27dfa4d4936ab0a2bcc5280f02a67", func := "copse/copselaw5.MetaEncodes", spec := "metaEncodes", named := ["copse/api.ErrArg", "copse/codec.steps", "copse/api.ErrText", "copse/api.ErrMany", "copse/api.ErrShort", "copse/api.ErrTwice", "copse/api.ErrLost", "copse/api.ErrFull", "copse/api.ErrDead", "copse/api.ErrCorrupt", "copse/api.ErrStatus", "copse/api.ErrTxid", "copse/api.ErrOrder", "copse/api.ErrKind"], apart := false, laid := [("copse/api.ErrArg", laid_copse_api_ErrArg), ("copse/api.ErrText", laid_copse_api_ErrText), ("copse/api.ErrMany", laid_copse_api_ErrMany), ("copse/api.ErrShort", laid_copse_api_ErrShort), ("copse/api.ErrTwice", laid_copse_api_ErrTwice), ("copse/api.ErrLost", laid_copse_api_ErrLost), ("copse/api.ErrFull", laid_copse_api_ErrFull), ("copse/api.ErrDead", laid_copse_api_ErrDead), ("copse/api.ErrCorrupt", laid_copse_api_ErrCorrupt), ("copse/api.ErrStatus", laid_copse_api_ErrStatus), ("copse/api.ErrTxid", laid_copse_api_ErrTxid), ("copse/api.ErrOrder", laid_copse_api_ErrOrder), ("copse/api.ErrKind", laid_copse_api_ErrKind), ("copse/codec.steps", laid_copse_codec_steps)] }
def MetaEncodesSaid : Prop := metaEncodesRow.holds Tryd.pinned (OpenSpec.ofChange metaEncodesSpec)

/-- ITS FALSE NEIGHBOUR: 'it returns false'. Refute it at one input. -/
def metaEncodesWrong : ChangeSpec := { name := "metaEncodes", fn := fun _ => fun
  | [d] => { results := [.lit (.bool false)], args := [d] }
  | _ => none }
def MetaEncodesWrongFalsely : Prop := metaEncodesRow.holds Tryd.pinned (OpenSpec.ofChange metaEncodesWrong)

/-- 'copselaw4.SheetSeals': WHATEVER THE INPUT: true; the input reads as it did. -/
def sheetSealsSpec : ChangeSpec := { name := "sheetSeals", fn := fun _ => fun
  | [d] => { results := [.lit (.bool true)], args := [d] }
  | _ => none }
def sheetSealsRow : OpenClaim := { program := "ytoenacghkpgnpaadoor", sum := "032b6bf66f6b3817721e8dc8e9dff08fa1c27dfa4d4936ab0a2bcc5280f02a67", func := "copse/copselaw4.SheetSeals", spec := "sheetSeals", unfollowed := true, recurses := true, named := ["copse/api.ErrArg", "copse/sheet.head", "copse/codec.steps", "copse/api.ErrText", "copse/api.ErrMany", "copse/api.ErrShort", "copse/api.ErrTwice", "copse/api.ErrLost", "copse/api.ErrFull", "copse/api.ErrDead", "copse/api.ErrCorrupt", "copse/api.ErrStatus", "copse/api.ErrTxid", "copse/api.ErrOrder", "copse/api.ErrKind"], apart := false, laid := [("copse/api.ErrArg", laid_copse_api_ErrArg), ("copse/api.ErrText", laid_copse_api_ErrText), ("copse/api.ErrMany", laid_copse_api_ErrMany), ("copse/api.ErrShort", laid_copse_api_ErrShort), ("copse/api.ErrTwice", laid_copse_api_ErrTwice), ("copse/api.ErrLost", laid_copse_api_ErrLost), ("copse/api.ErrFull", laid_copse_api_ErrFull), ("copse/api.ErrDead", laid_copse_api_ErrDead), ("copse/api.ErrCorrupt", laid_copse_api_ErrCorrupt), ("copse/api.ErrStatus", laid_copse_api_ErrStatus), ("copse/api.ErrTxid", laid_copse_api_ErrTxid), ("copse/api.ErrOrder", laid_copse_api_ErrOrder), ("copse/api.ErrKind", laid_copse_api_ErrKind), ("copse/codec.steps", laid_copse_codec_steps), ("copse/sheet.head", laid_copse_sheet_head)] }
def SheetSealsSaid : Prop := sheetSealsRow.holds Tryd.pinned (OpenSpec.ofChange sheetSealsSpec)

/-- ITS FALSE NEIGHBOUR: 'it returns false'. Refute it at one input. -/
def sheetSealsWrong : ChangeSpec := { name := "sheetSeals", fn := fun _ => fun
  | [d] => { results := [.lit (.bool false)], args := [d] }
  | _ => none }
def SheetSealsWrongFalsely : Prop := sheetSealsRow.holds Tryd.pinned (OpenSpec.ofChange sheetSealsWrong)

/-- 'copselaw5.MetaDecodes': WHATEVER THE INPUT: true; the input reads as it did. -/
def metaDecodesSpec : ChangeSpec := { name := "metaDecodes", fn := fun _ => fun
  | [d] => { results := [.lit (.bool true)], args := [d] }
  | _ => none }
def metaDecodesRow : OpenClaim := { program := "ytoenacghkpgnpaadoor", sum := "032b6bf66f6b3817721e8dc8e9dff08fa1c27dfa4d4936ab0a2bcc5280f02a67", func := "copse/copselaw5.MetaDecodes", spec := "metaDecodes", named := ["copse/api.ErrArg", "copse/api.ErrText", "copse/codec.steps", "copse/api.ErrMany", "copse/api.ErrShort", "copse/api.ErrTwice", "copse/api.ErrLost", "copse/api.ErrFull", "copse/api.ErrDead", "copse/api.ErrCorrupt", "copse/api.ErrStatus", "copse/api.ErrTxid", "copse/api.ErrOrder", "copse/api.ErrKind"], apart := false, laid := [("copse/api.ErrArg", laid_copse_api_ErrArg), ("copse/api.ErrText", laid_copse_api_ErrText), ("copse/api.ErrMany", laid_copse_api_ErrMany), ("copse/api.ErrShort", laid_copse_api_ErrShort), ("copse/api.ErrTwice", laid_copse_api_ErrTwice), ("copse/api.ErrLost", laid_copse_api_ErrLost), ("copse/api.ErrFull", laid_copse_api_ErrFull), ("copse/api.ErrDead", laid_copse_api_ErrDead), ("copse/api.ErrCorrupt", laid_copse_api_ErrCorrupt), ("copse/api.ErrStatus", laid_copse_api_ErrStatus), ("copse/api.ErrTxid", laid_copse_api_ErrTxid), ("copse/api.ErrOrder", laid_copse_api_ErrOrder), ("copse/api.ErrKind", laid_copse_api_ErrKind), ("copse/codec.steps", laid_copse_codec_steps)] }
def MetaDecodesSaid : Prop := metaDecodesRow.holds Tryd.pinned (OpenSpec.ofChange metaDecodesSpec)

/-- ITS FALSE NEIGHBOUR: 'it returns false'. Refute it at one input. -/
def metaDecodesWrong : ChangeSpec := { name := "metaDecodes", fn := fun _ => fun
  | [d] => { results := [.lit (.bool false)], args := [d] }
  | _ => none }
def MetaDecodesWrongFalsely : Prop := metaDecodesRow.holds Tryd.pinned (OpenSpec.ofChange metaDecodesWrong)

/-- 'copselaw4.SheetReads': WHATEVER THE INPUT: true; the input reads as it did. -/
def sheetReadsSpec : ChangeSpec := { name := "sheetReads", fn := fun _ => fun
  | [d] => { results := [.lit (.bool true)], args := [d] }
  | _ => none }
def sheetReadsRow : OpenClaim := { program := "ytoenacghkpgnpaadoor", sum := "032b6bf66f6b3817721e8dc8e9dff08fa1c27dfa4d4936ab0a2bcc5280f02a67", func := "copse/copselaw4.SheetReads", spec := "sheetReads", unfollowed := true, recurses := true, named := ["copse/api.ErrText", "copse/sheet.head", "copse/api.ErrArg", "copse/codec.steps", "copse/api.ErrMany", "copse/api.ErrShort", "copse/api.ErrTwice", "copse/api.ErrLost", "copse/api.ErrFull", "copse/api.ErrDead", "copse/api.ErrCorrupt", "copse/api.ErrStatus", "copse/api.ErrTxid", "copse/api.ErrOrder", "copse/api.ErrKind"], apart := false, laid := [("copse/api.ErrArg", laid_copse_api_ErrArg), ("copse/api.ErrText", laid_copse_api_ErrText), ("copse/api.ErrMany", laid_copse_api_ErrMany), ("copse/api.ErrShort", laid_copse_api_ErrShort), ("copse/api.ErrTwice", laid_copse_api_ErrTwice), ("copse/api.ErrLost", laid_copse_api_ErrLost), ("copse/api.ErrFull", laid_copse_api_ErrFull), ("copse/api.ErrDead", laid_copse_api_ErrDead), ("copse/api.ErrCorrupt", laid_copse_api_ErrCorrupt), ("copse/api.ErrStatus", laid_copse_api_ErrStatus), ("copse/api.ErrTxid", laid_copse_api_ErrTxid), ("copse/api.ErrOrder", laid_copse_api_ErrOrder), ("copse/api.ErrKind", laid_copse_api_ErrKind), ("copse/codec.steps", laid_copse_codec_steps), ("copse/sheet.head", laid_copse_sheet_head)] }
def SheetReadsSaid : Prop := sheetReadsRow.holds Tryd.pinned (OpenSpec.ofChange sheetReadsSpec)

/-- ITS FALSE NEIGHBOUR: 'it returns false'. Refute it at one input. -/
def sheetReadsWrong : ChangeSpec := { name := "sheetReads", fn := fun _ => fun
  | [d] => { results := [.lit (.bool false)], args := [d] }
  | _ => none }
def SheetReadsWrongFalsely : Prop := sheetReadsRow.holds Tryd.pinned (OpenSpec.ofChange sheetReadsWrong)

/-- 'copselaw4.SheetBack': WHATEVER THE INPUT: true; the input reads as it did. -/
def sheetBackSpec : ChangeSpec := { name := "sheetBack", fn := fun _ => fun
  | [d] => { results := [.lit (.bool true)], args := [d] }
  | _ => none }
def sheetBackRow : OpenClaim := { program := "ytoenacghkpgnpaadoor", sum := "032b6bf66f6b3817721e8dc8e9dff08fa1c27dfa4d4936ab0a2bcc5280f02a67", func := "copse/copselaw4.SheetBack", spec := "sheetBack", unfollowed := true, recurses := true, named := ["copse/api.ErrArg", "copse/sheet.head", "copse/codec.steps", "copse/api.ErrText", "copse/api.ErrMany", "copse/api.ErrShort", "copse/api.ErrTwice", "copse/api.ErrLost", "copse/api.ErrFull", "copse/api.ErrDead", "copse/api.ErrCorrupt", "copse/api.ErrStatus", "copse/api.ErrTxid", "copse/api.ErrOrder", "copse/api.ErrKind"], apart := false, laid := [("copse/api.ErrArg", laid_copse_api_ErrArg), ("copse/api.ErrText", laid_copse_api_ErrText), ("copse/api.ErrMany", laid_copse_api_ErrMany), ("copse/api.ErrShort", laid_copse_api_ErrShort), ("copse/api.ErrTwice", laid_copse_api_ErrTwice), ("copse/api.ErrLost", laid_copse_api_ErrLost), ("copse/api.ErrFull", laid_copse_api_ErrFull), ("copse/api.ErrDead", laid_copse_api_ErrDead), ("copse/api.ErrCorrupt", laid_copse_api_ErrCorrupt), ("copse/api.ErrStatus", laid_copse_api_ErrStatus), ("copse/api.ErrTxid", laid_copse_api_ErrTxid), ("copse/api.ErrOrder", laid_copse_api_ErrOrder), ("copse/api.ErrKind", laid_copse_api_ErrKind), ("copse/codec.steps", laid_copse_codec_steps), ("copse/sheet.head", laid_copse_sheet_head)] }
def SheetBackSaid : Prop := sheetBackRow.holds Tryd.pinned (OpenSpec.ofChange sheetBackSpec)

/-- ITS FALSE NEIGHBOUR: 'it returns false'. Refute it at one input. -/
def sheetBackWrong : ChangeSpec := { name := "sheetBack", fn := fun _ => fun
  | [d] => { results := [.lit (.bool false)], args := [d] }
  | _ => none }
def SheetBackWrongFalsely : Prop := sheetBackRow.holds Tryd.pinned (OpenSpec.ofChange sheetBackWrong)

/-- 'copselaw4.SheetBursts': WHATEVER THE INPUT: true; the input reads as it did. -/
def sheetBurstsSpec : ChangeSpec := { name := "sheetBursts", fn := fun _ => fun
  | [d] => { results := [.lit (.bool true)], args := [d] }
  | _ => none }
def sheetBurstsRow : OpenClaim := { program := "ytoenacghkpgnpaadoor", sum := "032b6bf66f6b3817721e8dc8e9dff08fa1c27dfa4d4936ab0a2bcc5280f02a67", func := "copse/copselaw4.SheetBursts", spec := "sheetBursts", unfollowed := true, recurses := true, named := ["copse/api.ErrArg", "copse/sheet.head", "copse/codec.steps", "copse/api.ErrText", "copse/api.ErrMany", "copse/api.ErrShort", "copse/api.ErrTwice", "copse/api.ErrLost", "copse/api.ErrFull", "copse/api.ErrDead", "copse/api.ErrCorrupt", "copse/api.ErrStatus", "copse/api.ErrTxid", "copse/api.ErrOrder", "copse/api.ErrKind"], apart := false, laid := [("copse/api.ErrArg", laid_copse_api_ErrArg), ("copse/api.ErrText", laid_copse_api_ErrText), ("copse/api.ErrMany", laid_copse_api_ErrMany), ("copse/api.ErrShort", laid_copse_api_ErrShort), ("copse/api.ErrTwice", laid_copse_api_ErrTwice), ("copse/api.ErrLost", laid_copse_api_ErrLost), ("copse/api.ErrFull", laid_copse_api_ErrFull), ("copse/api.ErrDead", laid_copse_api_ErrDead), ("copse/api.ErrCorrupt", laid_copse_api_ErrCorrupt), ("copse/api.ErrStatus", laid_copse_api_ErrStatus), ("copse/api.ErrTxid", laid_copse_api_ErrTxid), ("copse/api.ErrOrder", laid_copse_api_ErrOrder), ("copse/api.ErrKind", laid_copse_api_ErrKind), ("copse/codec.steps", laid_copse_codec_steps), ("copse/sheet.head", laid_copse_sheet_head)] }
def SheetBurstsSaid : Prop := sheetBurstsRow.holds Tryd.pinned (OpenSpec.ofChange sheetBurstsSpec)

/-- ITS FALSE NEIGHBOUR: 'it returns false'. Refute it at one input. -/
def sheetBurstsWrong : ChangeSpec := { name := "sheetBursts", fn := fun _ => fun
  | [d] => { results := [.lit (.bool false)], args := [d] }
  | _ => none }
def SheetBurstsWrongFalsely : Prop := sheetBurstsRow.holds Tryd.pinned (OpenSpec.ofChange sheetBurstsWrong)

/-- 'copselaw5.MetaBack': WHATEVER THE INPUT: true; the input reads as it did. -/
def metaBackSpec : ChangeSpec := { name := "metaBack", fn := fun _ => fun
  | [d] => { results := [.lit (.bool true)], args := [d] }
  | _ => none }
def metaBackRow : OpenClaim := { program := "ytoenacghkpgnpaadoor", sum := "032b6bf66f6b3817721e8dc8e9dff08fa1c27dfa4d4936ab0a2bcc5280f02a67", func := "copse/copselaw5.MetaBack", spec := "metaBack", named := ["copse/api.ErrArg", "copse/codec.steps", "copse/api.ErrText", "copse/api.ErrMany", "copse/api.ErrShort", "copse/api.ErrTwice", "copse/api.ErrLost", "copse/api.ErrFull", "copse/api.ErrDead", "copse/api.ErrCorrupt", "copse/api.ErrStatus", "copse/api.ErrTxid", "copse/api.ErrOrder", "copse/api.ErrKind"], apart := false, laid := [("copse/api.ErrArg", laid_copse_api_ErrArg), ("copse/api.ErrText", laid_copse_api_ErrText), ("copse/api.ErrMany", laid_copse_api_ErrMany), ("copse/api.ErrShort", laid_copse_api_ErrShort), ("copse/api.ErrTwice", laid_copse_api_ErrTwice), ("copse/api.ErrLost", laid_copse_api_ErrLost), ("copse/api.ErrFull", laid_copse_api_ErrFull), ("copse/api.ErrDead", laid_copse_api_ErrDead), ("copse/api.ErrCorrupt", laid_copse_api_ErrCorrupt), ("copse/api.ErrStatus", laid_copse_api_ErrStatus), ("copse/api.ErrTxid", laid_copse_api_ErrTxid), ("copse/api.ErrOrder", laid_copse_api_ErrOrder), ("copse/api.ErrKind", laid_copse_api_ErrKind), ("copse/codec.steps", laid_copse_codec_steps)] }
def MetaBackSaid : Prop := metaBackRow.holds Tryd.pinned (OpenSpec.ofChange metaBackSpec)

/-- ITS FALSE NEIGHBOUR: 'it returns false'. Refute it at one input. -/
def metaBackWrong : ChangeSpec := { name := "metaBack", fn := fun _ => fun
  | [d] => { results := [.lit (.bool false)], args := [d] }
  | _ => none }
def MetaBackWrongFalsely : Prop := metaBackRow.holds Tryd.pinned (OpenSpec.ofChange metaBackWrong)

/-- 'copselaw5.MetaOnly': WHATEVER THE INPUT: true; the input reads as it did. -/
def metaOnlySpec : ChangeSpec := { name := "metaOnly", fn := fun _ => fun
  | [d] => { results := [.lit (.bool true)], args := [d] }
  | _ => none }
def metaOnlyRow : OpenClaim := { program := "ytoenacghkpgnpaadoor", sum := "032b6bf66f6b3817721e8dc8e9dff08fa1c27dfa4d4936ab0a2bcc5280f02a67", func := "copse/copselaw5.MetaOnly", spec := "metaOnly", named := ["copse/api.ErrArg", "copse/codec.steps", "copse/api.ErrText", "copse/api.ErrMany", "copse/api.ErrShort", "copse/api.ErrTwice", "copse/api.ErrLost", "copse/api.ErrFull", "copse/api.ErrDead", "copse/api.ErrCorrupt", "copse/api.ErrStatus", "copse/api.ErrTxid", "copse/api.ErrOrder", "copse/api.ErrKind"], apart := false, laid := [("copse/api.ErrArg", laid_copse_api_ErrArg), ("copse/api.ErrText", laid_copse_api_ErrText), ("copse/api.ErrMany", laid_copse_api_ErrMany), ("copse/api.ErrShort", laid_copse_api_ErrShort), ("copse/api.ErrTwice", laid_copse_api_ErrTwice), ("copse/api.ErrLost", laid_copse_api_ErrLost), ("copse/api.ErrFull", laid_copse_api_ErrFull), ("copse/api.ErrDead", laid_copse_api_ErrDead), ("copse/api.ErrCorrupt", laid_copse_api_ErrCorrupt), ("copse/api.ErrStatus", laid_copse_api_ErrStatus), ("copse/api.ErrTxid", laid_copse_api_ErrTxid), ("copse/api.ErrOrder", laid_copse_api_ErrOrder), ("copse/api.ErrKind", laid_copse_api_ErrKind), ("copse/codec.steps", laid_copse_codec_steps)] }
def MetaOnlySaid : Prop := metaOnlyRow.holds Tryd.pinned (OpenSpec.ofChange metaOnlySpec)

/-- ITS FALSE NEIGHBOUR: 'it returns false'. Refute it at one input. -/
def metaOnlyWrong : ChangeSpec := { name := "metaOnly", fn := fun _ => fun
  | [d] => { results := [.lit (.bool false)], args := [d] }
  | _ => none }
def MetaOnlyWrongFalsely : Prop := metaOnlyRow.holds Tryd.pinned (OpenSpec.ofChange metaOnlyWrong)

/-- 'copselaw5.MetaBurst': WHATEVER THE INPUT: true; the input reads as it did. -/
def metaBurstSpec : ChangeSpec := { name := "metaBurst", fn := fun _ => fun
  | [d] => { results := [.lit (.bool true)], args := [d] }
  | _ => none }
def metaBurstRow : OpenClaim := { program := "ytoenacghkpgnpaadoor", sum := "032b6bf66f6b3817721e8dc8e9dff08fa1c27dfa4d4936ab0a2bcc5280f02a67", func := "copse/copselaw5.MetaBurst", spec := "metaBurst", named := ["copse/api.ErrArg", "copse/codec.steps", "copse/api.ErrText", "copse/api.ErrMany", "copse/api.ErrShort", "copse/api.ErrTwice", "copse/api.ErrLost", "copse/api.ErrFull", "copse/api.ErrDead", "copse/api.ErrCorrupt", "copse/api.ErrStatus", "copse/api.ErrTxid", "copse/api.ErrOrder", "copse/api.ErrKind"], apart := false, laid := [("copse/api.ErrArg", laid_copse_api_ErrArg), ("copse/api.ErrText", laid_copse_api_ErrText), ("copse/api.ErrMany", laid_copse_api_ErrMany), ("copse/api.ErrShort", laid_copse_api_ErrShort), ("copse/api.ErrTwice", laid_copse_api_ErrTwice), ("copse/api.ErrLost", laid_copse_api_ErrLost), ("copse/api.ErrFull", laid_copse_api_ErrFull), ("copse/api.ErrDead", laid_copse_api_ErrDead), ("copse/api.ErrCorrupt", laid_copse_api_ErrCorrupt), ("copse/api.ErrStatus", laid_copse_api_ErrStatus), ("copse/api.ErrTxid", laid_copse_api_ErrTxid), ("copse/api.ErrOrder", laid_copse_api_ErrOrder), ("copse/api.ErrKind", laid_copse_api_ErrKind), ("copse/codec.steps", laid_copse_codec_steps)] }
def MetaBurstSaid : Prop := metaBurstRow.holds Tryd.pinned (OpenSpec.ofChange metaBurstSpec)

/-- ITS FALSE NEIGHBOUR: 'it returns false'. Refute it at one input. -/
def metaBurstWrong : ChangeSpec := { name := "metaBurst", fn := fun _ => fun
  | [d] => { results := [.lit (.bool false)], args := [d] }
  | _ => none }
def MetaBurstWrongFalsely : Prop := metaBurstRow.holds Tryd.pinned (OpenSpec.ofChange metaBurstWrong)

/-- 'copselaw5.MetaChooses': WHATEVER THE INPUT: true; the input reads as it did. -/
def metaChoosesSpec : ChangeSpec := { name := "metaChooses", fn := fun _ => fun
  | [d] => { results := [.lit (.bool true)], args := [d] }
  | _ => none }
def metaChoosesRow : OpenClaim := { program := "ytoenacghkpgnpaadoor", sum := "032b6bf66f6b3817721e8dc8e9dff08fa1c27dfa4d4936ab0a2bcc5280f02a67", func := "copse/copselaw5.MetaChooses", spec := "metaChooses", named := ["copse/api.ErrArg", "copse/api.ErrCorrupt", "copse/api.ErrText", "copse/codec.steps", "copse/api.ErrMany", "copse/api.ErrShort", "copse/api.ErrTwice", "copse/api.ErrLost", "copse/api.ErrFull", "copse/api.ErrDead", "copse/api.ErrStatus", "copse/api.ErrTxid", "copse/api.ErrOrder", "copse/api.ErrKind"], apart := false, laid := [("copse/api.ErrArg", laid_copse_api_ErrArg), ("copse/api.ErrText", laid_copse_api_ErrText), ("copse/api.ErrMany", laid_copse_api_ErrMany), ("copse/api.ErrShort", laid_copse_api_ErrShort), ("copse/api.ErrTwice", laid_copse_api_ErrTwice), ("copse/api.ErrLost", laid_copse_api_ErrLost), ("copse/api.ErrFull", laid_copse_api_ErrFull), ("copse/api.ErrDead", laid_copse_api_ErrDead), ("copse/api.ErrCorrupt", laid_copse_api_ErrCorrupt), ("copse/api.ErrStatus", laid_copse_api_ErrStatus), ("copse/api.ErrTxid", laid_copse_api_ErrTxid), ("copse/api.ErrOrder", laid_copse_api_ErrOrder), ("copse/api.ErrKind", laid_copse_api_ErrKind), ("copse/codec.steps", laid_copse_codec_steps)] }
def MetaChoosesSaid : Prop := metaChoosesRow.holds Tryd.pinned (OpenSpec.ofChange metaChoosesSpec)

/-- ITS FALSE NEIGHBOUR: 'it returns false'. Refute it at one input. -/
def metaChoosesWrong : ChangeSpec := { name := "metaChooses", fn := fun _ => fun
  | [d] => { results := [.lit (.bool false)], args := [d] }
  | _ => none }
def MetaChoosesWrongFalsely : Prop := metaChoosesRow.holds Tryd.pinned (OpenSpec.ofChange metaChoosesWrong)

/-- 'copselaw5.MetaMemory': WHATEVER THE INPUT: true; the input reads as it did. -/
def metaMemorySpec : ChangeSpec := { name := "metaMemory", fn := fun _ => fun
  | [d] => { results := [.lit (.bool true)], args := [d] }
  | _ => none }
def metaMemoryRow : OpenClaim := { program := "ytoenacghkpgnpaadoor", sum := "032b6bf66f6b3817721e8dc8e9dff08fa1c27dfa4d4936ab0a2bcc5280f02a67", func := "copse/copselaw5.MetaMemory", spec := "metaMemory", named := ["copse/api.ErrArg", "copse/codec.steps", "copse/api.ErrText", "copse/api.ErrCorrupt", "copse/api.ErrMany", "copse/api.ErrShort", "copse/api.ErrTwice", "copse/api.ErrLost", "copse/api.ErrFull", "copse/api.ErrDead", "copse/api.ErrStatus", "copse/api.ErrTxid", "copse/api.ErrOrder", "copse/api.ErrKind"], apart := false, laid := [("copse/api.ErrArg", laid_copse_api_ErrArg), ("copse/api.ErrText", laid_copse_api_ErrText), ("copse/api.ErrMany", laid_copse_api_ErrMany), ("copse/api.ErrShort", laid_copse_api_ErrShort), ("copse/api.ErrTwice", laid_copse_api_ErrTwice), ("copse/api.ErrLost", laid_copse_api_ErrLost), ("copse/api.ErrFull", laid_copse_api_ErrFull), ("copse/api.ErrDead", laid_copse_api_ErrDead), ("copse/api.ErrCorrupt", laid_copse_api_ErrCorrupt), ("copse/api.ErrStatus", laid_copse_api_ErrStatus), ("copse/api.ErrTxid", laid_copse_api_ErrTxid), ("copse/api.ErrOrder", laid_copse_api_ErrOrder), ("copse/api.ErrKind", laid_copse_api_ErrKind), ("copse/codec.steps", laid_copse_codec_steps)] }
def MetaMemorySaid : Prop := metaMemoryRow.holds Tryd.pinned (OpenSpec.ofChange metaMemorySpec)

/-- ITS FALSE NEIGHBOUR: 'it returns false'. Refute it at one input. -/
def metaMemoryWrong : ChangeSpec := { name := "metaMemory", fn := fun _ => fun
  | [d] => { results := [.lit (.bool false)], args := [d] }
  | _ => none }
def MetaMemoryWrongFalsely : Prop := metaMemoryRow.holds Tryd.pinned (OpenSpec.ofChange metaMemoryWrong)

/-- 'copselaw4.SheetLasts': WHATEVER THE INPUT: true; the input reads as it did. -/
def sheetLastsSpec : ChangeSpec := { name := "sheetLasts", fn := fun _ => fun
  | [d] => { results := [.lit (.bool true)], args := [d] }
  | _ => none }
def sheetLastsRow : OpenClaim := { program := "ytoenacghkpgnpaadoor", sum := "032b6bf66f6b3817721e8dc8e9dff08fa1c27dfa4d4936ab0a2bcc5280f02a67", func := "copse/copselaw4.SheetLasts", spec := "sheetLasts", unfollowed := true, recurses := true, named := ["copse/api.ErrArg", "copse/sheet.head", "copse/codec.steps", "copse/api.ErrText", "copse/api.ErrDead", "copse/api.ErrMany"], apart := false, laid := [("copse/api.ErrArg", laid_copse_api_ErrArg), ("copse/api.ErrText", laid_copse_api_ErrText), ("copse/api.ErrMany", laid_copse_api_ErrMany), ("copse/api.ErrDead", laid_copse_api_ErrDead), ("copse/codec.steps", laid_copse_codec_steps), ("copse/sheet.head", laid_copse_sheet_head)] }
def SheetLastsSaid : Prop := sheetLastsRow.holds Tryd.pinned (OpenSpec.ofChange sheetLastsSpec)

/-- ITS FALSE NEIGHBOUR: 'it returns false'. Refute it at one input. -/
def sheetLastsWrong : ChangeSpec := { name := "sheetLasts", fn := fun _ => fun
  | [d] => { results := [.lit (.bool false)], args := [d] }
  | _ => none }
def SheetLastsWrongFalsely : Prop := sheetLastsRow.holds Tryd.pinned (OpenSpec.ofChange sheetLastsWrong)

/-- 'copselaw5.MetaTurns': WHATEVER THE INPUT: true; the input reads as it did. -/
def metaTurnsSpec : ChangeSpec := { name := "metaTurns", fn := fun _ => fun
  | [d] => { results := [.lit (.bool true)], args := [d] }
  | _ => none }
def metaTurnsRow : OpenClaim := { program := "ytoenacghkpgnpaadoor", sum := "032b6bf66f6b3817721e8dc8e9dff08fa1c27dfa4d4936ab0a2bcc5280f02a67", func := "copse/copselaw5.MetaTurns", spec := "metaTurns", named := ["copse/api.ErrArg", "copse/codec.steps", "copse/api.ErrDead", "copse/api.ErrCorrupt", "copse/api.ErrMany", "copse/api.ErrText"], apart := false, laid := [("copse/api.ErrArg", laid_copse_api_ErrArg), ("copse/api.ErrText", laid_copse_api_ErrText), ("copse/api.ErrMany", laid_copse_api_ErrMany), ("copse/api.ErrDead", laid_copse_api_ErrDead), ("copse/api.ErrCorrupt", laid_copse_api_ErrCorrupt), ("copse/codec.steps", laid_copse_codec_steps)] }
def MetaTurnsSaid : Prop := metaTurnsRow.holds Tryd.pinned (OpenSpec.ofChange metaTurnsSpec)

/-- ITS FALSE NEIGHBOUR: 'it returns false'. Refute it at one input. -/
def metaTurnsWrong : ChangeSpec := { name := "metaTurns", fn := fun _ => fun
  | [d] => { results := [.lit (.bool false)], args := [d] }
  | _ => none }
def MetaTurnsWrongFalsely : Prop := metaTurnsRow.holds Tryd.pinned (OpenSpec.ofChange metaTurnsWrong)

/- THE SECOND FORM. 'bulk': how many values and letters a reading holds, each counted each time it is reached (what is shared counts as often as it is met; a slice's spare places count too). A statement '..UptoSaid' is the law's where the arguments, and the package variables that the reading takes, are together of bulk at most 1048576: NARROWER than '..Said'. Prove '..Said' where nothing that the law and all that it calls make is longer than what came in: it says more and counts as full. Else prove '..UptoSaid'. A law counts once. -/
mutual
def uptoBulk {H : Type} : DataW H → Nat
  | .lit (.string bytes) => bytes.length + 1
  | .lit _ => 1
  | .nil => 1
  | .ptr d => uptoBulk d + 1
  | .slice elems spare => uptoBulkAll elems + uptoBulkAll spare + 1
  | .agg parts => uptoBulkAll parts + 1
  | .iface _ d => uptoBulk d + 1
  | .map entries => uptoBulkEntries entries + 1
  | .held _ => 1
def uptoBulkAll {H : Type} : List (DataW H) → Nat
  | [] => 0
  | d :: r => uptoBulk d + uptoBulkAll r
def uptoBulkEntries {H : Type} : List (Lit × DataW H) → Nat
  | [] => 0
  | x :: r => uptoBulkEntry x + uptoBulkEntries r
def uptoBulkEntry {H : Type} : Lit × DataW H → Nat
  | (.string bytes, d) => bytes.length + uptoBulk d + 1
  | (_, d) => uptoBulk d + 1
 end
def uptoSmall : (H : Type) → List (DataW H) → Bool := fun _ ds => decide (uptoBulkAll ds ≤ 1048576)
def OpenSpec.upto (s : _root_.Go.ChangeSpec) : _root_.Go.OpenSpec := { _root_.Go.OpenSpec.ofChange s with cond := some uptoSmall }

/-- 'copselaw5.MetaEncodes', WHERE WHAT IT READS IS OF BULK AT MOST 1048576: true; the input reads as it did. -/
def metaEncodesUptoRow : OpenClaim := { program := "ytoenacghkpgnpaadoor", sum := "032b6bf66f6b3817721e8dc8e9dff08fa1c27dfa4d4936ab0a2bcc5280f02a67", func := "copse/copselaw5.MetaEncodes", spec := "metaEncodes", named := ["copse/api.ErrArg", "copse/codec.steps", "copse/api.ErrText", "copse/api.ErrMany", "copse/api.ErrShort", "copse/api.ErrTwice", "copse/api.ErrLost", "copse/api.ErrFull", "copse/api.ErrDead", "copse/api.ErrCorrupt", "copse/api.ErrStatus", "copse/api.ErrTxid", "copse/api.ErrOrder", "copse/api.ErrKind"], apart := false, laid := [("copse/api.ErrArg", laid_copse_api_ErrArg), ("copse/api.ErrText", laid_copse_api_ErrText), ("copse/api.ErrMany", laid_copse_api_ErrMany), ("copse/api.ErrShort", laid_copse_api_ErrShort), ("copse/api.ErrTwice", laid_copse_api_ErrTwice), ("copse/api.ErrLost", laid_copse_api_ErrLost), ("copse/api.ErrFull", laid_copse_api_ErrFull), ("copse/api.ErrDead", laid_copse_api_ErrDead), ("copse/api.ErrCorrupt", laid_copse_api_ErrCorrupt), ("copse/api.ErrStatus", laid_copse_api_ErrStatus), ("copse/api.ErrTxid", laid_copse_api_ErrTxid), ("copse/api.ErrOrder", laid_copse_api_ErrOrder), ("copse/api.ErrKind", laid_copse_api_ErrKind), ("copse/codec.steps", laid_copse_codec_steps)], narrowed := true }
def MetaEncodesUptoSaid : Prop := metaEncodesUptoRow.holds Tryd.pinned (OpenSpec.upto metaEncodesSpec)

/-- 'copselaw4.SheetSeals', WHERE WHAT IT READS IS OF BULK AT MOST 1048576: true; the input reads as it did. -/
def sheetSealsUptoRow : OpenClaim := { program := "ytoenacghkpgnpaadoor", sum := "032b6bf66f6b3817721e8dc8e9dff08fa1c27dfa4d4936ab0a2bcc5280f02a67", func := "copse/copselaw4.SheetSeals", spec := "sheetSeals", unfollowed := true, recurses := true, named := ["copse/api.ErrArg", "copse/sheet.head", "copse/codec.steps", "copse/api.ErrText", "copse/api.ErrMany", "copse/api.ErrShort", "copse/api.ErrTwice", "copse/api.ErrLost", "copse/api.ErrFull", "copse/api.ErrDead", "copse/api.ErrCorrupt", "copse/api.ErrStatus", "copse/api.ErrTxid", "copse/api.ErrOrder", "copse/api.ErrKind"], apart := false, laid := [("copse/api.ErrArg", laid_copse_api_ErrArg), ("copse/api.ErrText", laid_copse_api_ErrText), ("copse/api.ErrMany", laid_copse_api_ErrMany), ("copse/api.ErrShort", laid_copse_api_ErrShort), ("copse/api.ErrTwice", laid_copse_api_ErrTwice), ("copse/api.ErrLost", laid_copse_api_ErrLost), ("copse/api.ErrFull", laid_copse_api_ErrFull), ("copse/api.ErrDead", laid_copse_api_ErrDead), ("copse/api.ErrCorrupt", laid_copse_api_ErrCorrupt), ("copse/api.ErrStatus", laid_copse_api_ErrStatus), ("copse/api.ErrTxid", laid_copse_api_ErrTxid), ("copse/api.ErrOrder", laid_copse_api_ErrOrder), ("copse/api.ErrKind", laid_copse_api_ErrKind), ("copse/codec.steps", laid_copse_codec_steps), ("copse/sheet.head", laid_copse_sheet_head)], narrowed := true }
def SheetSealsUptoSaid : Prop := sheetSealsUptoRow.holds Tryd.pinned (OpenSpec.upto sheetSealsSpec)

/-- 'copselaw5.MetaDecodes', WHERE WHAT IT READS IS OF BULK AT MOST 1048576: true; the input reads as it did. -/
def metaDecodesUptoRow : OpenClaim := { program := "ytoenacghkpgnpaadoor", sum := "032b6bf66f6b3817721e8dc8e9dff08fa1c27dfa4d4936ab0a2bcc5280f02a67", func := "copse/copselaw5.MetaDecodes", spec := "metaDecodes", named := ["copse/api.ErrArg", "copse/api.ErrText", "copse/codec.steps", "copse/api.ErrMany", "copse/api.ErrShort", "copse/api.ErrTwice", "copse/api.ErrLost", "copse/api.ErrFull", "copse/api.ErrDead", "copse/api.ErrCorrupt", "copse/api.ErrStatus", "copse/api.ErrTxid", "copse/api.ErrOrder", "copse/api.ErrKind"], apart := false, laid := [("copse/api.ErrArg", laid_copse_api_ErrArg), ("copse/api.ErrText", laid_copse_api_ErrText), ("copse/api.ErrMany", laid_copse_api_ErrMany), ("copse/api.ErrShort", laid_copse_api_ErrShort), ("copse/api.ErrTwice", laid_copse_api_ErrTwice), ("copse/api.ErrLost", laid_copse_api_ErrLost), ("copse/api.ErrFull", laid_copse_api_ErrFull), ("copse/api.ErrDead", laid_copse_api_ErrDead), ("copse/api.ErrCorrupt", laid_copse_api_ErrCorrupt), ("copse/api.ErrStatus", laid_copse_api_ErrStatus), ("copse/api.ErrTxid", laid_copse_api_ErrTxid), ("copse/api.ErrOrder", laid_copse_api_ErrOrder), ("copse/api.ErrKind", laid_copse_api_ErrKind), ("copse/codec.steps", laid_copse_codec_steps)], narrowed := true }
def MetaDecodesUptoSaid : Prop := metaDecodesUptoRow.holds Tryd.pinned (OpenSpec.upto metaDecodesSpec)

/-- 'copselaw4.SheetReads', WHERE WHAT IT READS IS OF BULK AT MOST 1048576: true; the input reads as it did. -/
def sheetReadsUptoRow : OpenClaim := { program := "ytoenacghkpgnpaadoor", sum := "032b6bf66f6b3817721e8dc8e9dff08fa1c27dfa4d4936ab0a2bcc5280f02a67", func := "copse/copselaw4.SheetReads", spec := "sheetReads", unfollowed := true, recurses := true, named := ["copse/api.ErrText", "copse/sheet.head", "copse/api.ErrArg", "copse/codec.steps", "copse/api.ErrMany", "copse/api.ErrShort", "copse/api.ErrTwice", "copse/api.ErrLost", "copse/api.ErrFull", "copse/api.ErrDead", "copse/api.ErrCorrupt", "copse/api.ErrStatus", "copse/api.ErrTxid", "copse/api.ErrOrder", "copse/api.ErrKind"], apart := false, laid := [("copse/api.ErrArg", laid_copse_api_ErrArg), ("copse/api.ErrText", laid_copse_api_ErrText), ("copse/api.ErrMany", laid_copse_api_ErrMany), ("copse/api.ErrShort", laid_copse_api_ErrShort), ("copse/api.ErrTwice", laid_copse_api_ErrTwice), ("copse/api.ErrLost", laid_copse_api_ErrLost), ("copse/api.ErrFull", laid_copse_api_ErrFull), ("copse/api.ErrDead", laid_copse_api_ErrDead), ("copse/api.ErrCorrupt", laid_copse_api_ErrCorrupt), ("copse/api.ErrStatus", laid_copse_api_ErrStatus), ("copse/api.ErrTxid", laid_copse_api_ErrTxid), ("copse/api.ErrOrder", laid_copse_api_ErrOrder), ("copse/api.ErrKind", laid_copse_api_ErrKind), ("copse/codec.steps", laid_copse_codec_steps), ("copse/sheet.head", laid_copse_sheet_head)], narrowed := true }
def SheetReadsUptoSaid : Prop := sheetReadsUptoRow.holds Tryd.pinned (OpenSpec.upto sheetReadsSpec)

/-- 'copselaw4.SheetBack', WHERE WHAT IT READS IS OF BULK AT MOST 1048576: true; the input reads as it did. -/
def sheetBackUptoRow : OpenClaim := { program := "ytoenacghkpgnpaadoor", sum := "032b6bf66f6b3817721e8dc8e9dff08fa1c27dfa4d4936ab0a2bcc5280f02a67", func := "copse/copselaw4.SheetBack", spec := "sheetBack", unfollowed := true, recurses := true, named := ["copse/api.ErrArg", "copse/sheet.head", "copse/codec.steps", "copse/api.ErrText", "copse/api.ErrMany", "copse/api.ErrShort", "copse/api.ErrTwice", "copse/api.ErrLost", "copse/api.ErrFull", "copse/api.ErrDead", "copse/api.ErrCorrupt", "copse/api.ErrStatus", "copse/api.ErrTxid", "copse/api.ErrOrder", "copse/api.ErrKind"], apart := false, laid := [("copse/api.ErrArg", laid_copse_api_ErrArg), ("copse/api.ErrText", laid_copse_api_ErrText), ("copse/api.ErrMany", laid_copse_api_ErrMany), ("copse/api.ErrShort", laid_copse_api_ErrShort), ("copse/api.ErrTwice", laid_copse_api_ErrTwice), ("copse/api.ErrLost", laid_copse_api_ErrLost), ("copse/api.ErrFull", laid_copse_api_ErrFull), ("copse/api.ErrDead", laid_copse_api_ErrDead), ("copse/api.ErrCorrupt", laid_copse_api_ErrCorrupt), ("copse/api.ErrStatus", laid_copse_api_ErrStatus), ("copse/api.ErrTxid", laid_copse_api_ErrTxid), ("copse/api.ErrOrder", laid_copse_api_ErrOrder), ("copse/api.ErrKind", laid_copse_api_ErrKind), ("copse/codec.steps", laid_copse_codec_steps), ("copse/sheet.head", laid_copse_sheet_head)], narrowed := true }
def SheetBackUptoSaid : Prop := sheetBackUptoRow.holds Tryd.pinned (OpenSpec.upto sheetBackSpec)

/-- 'copselaw4.SheetBursts', WHERE WHAT IT READS IS OF BULK AT MOST 1048576: true; the input reads as it did. -/
def sheetBurstsUptoRow : OpenClaim := { program := "ytoenacghkpgnpaadoor", sum := "032b6bf66f6b3817721e8dc8e9dff08fa1c27dfa4d4936ab0a2bcc5280f02a67", func := "copse/copselaw4.SheetBursts", spec := "sheetBursts", unfollowed := true, recurses := true, named := ["copse/api.ErrArg", "copse/sheet.head", "copse/codec.steps", "copse/api.ErrText", "copse/api.ErrMany", "copse/api.ErrShort", "copse/api.ErrTwice", "copse/api.ErrLost", "copse/api.ErrFull", "copse/api.ErrDead", "copse/api.ErrCorrupt", "copse/api.ErrStatus", "copse/api.ErrTxid", "copse/api.ErrOrder", "copse/api.ErrKind"], apart := false, laid := [("copse/api.ErrArg", laid_copse_api_ErrArg), ("copse/api.ErrText", laid_copse_api_ErrText), ("copse/api.ErrMany", laid_copse_api_ErrMany), ("copse/api.ErrShort", laid_copse_api_ErrShort), ("copse/api.ErrTwice", laid_copse_api_ErrTwice), ("copse/api.ErrLost", laid_copse_api_ErrLost), ("copse/api.ErrFull", laid_copse_api_ErrFull), ("copse/api.ErrDead", laid_copse_api_ErrDead), ("copse/api.ErrCorrupt", laid_copse_api_ErrCorrupt), ("copse/api.ErrStatus", laid_copse_api_ErrStatus), ("copse/api.ErrTxid", laid_copse_api_ErrTxid), ("copse/api.ErrOrder", laid_copse_api_ErrOrder), ("copse/api.ErrKind", laid_copse_api_ErrKind), ("copse/codec.steps", laid_copse_codec_steps), ("copse/sheet.head", laid_copse_sheet_head)], narrowed := true }
def SheetBurstsUptoSaid : Prop := sheetBurstsUptoRow.holds Tryd.pinned (OpenSpec.upto sheetBurstsSpec)

/-- 'copselaw5.MetaBack', WHERE WHAT IT READS IS OF BULK AT MOST 1048576: true; the input reads as it did. -/
def metaBackUptoRow : OpenClaim := { program := "ytoenacghkpgnpaadoor", sum := "032b6bf66f6b3817721e8dc8e9dff08fa1c27dfa4d4936ab0a2bcc5280f02a67", func := "copse/copselaw5.MetaBack", spec := "metaBack", named := ["copse/api.ErrArg", "copse/codec.steps", "copse/api.ErrText", "copse/api.ErrMany", "copse/api.ErrShort", "copse/api.ErrTwice", "copse/api.ErrLost", "copse/api.ErrFull", "copse/api.ErrDead", "copse/api.ErrCorrupt", "copse/api.ErrStatus", "copse/api.ErrTxid", "copse/api.ErrOrder", "copse/api.ErrKind"], apart := false, laid := [("copse/api.ErrArg", laid_copse_api_ErrArg), ("copse/api.ErrText", laid_copse_api_ErrText), ("copse/api.ErrMany", laid_copse_api_ErrMany), ("copse/api.ErrShort", laid_copse_api_ErrShort), ("copse/api.ErrTwice", laid_copse_api_ErrTwice), ("copse/api.ErrLost", laid_copse_api_ErrLost), ("copse/api.ErrFull", laid_copse_api_ErrFull), ("copse/api.ErrDead", laid_copse_api_ErrDead), ("copse/api.ErrCorrupt", laid_copse_api_ErrCorrupt), ("copse/api.ErrStatus", laid_copse_api_ErrStatus), ("copse/api.ErrTxid", laid_copse_api_ErrTxid), ("copse/api.ErrOrder", laid_copse_api_ErrOrder), ("copse/api.ErrKind", laid_copse_api_ErrKind), ("copse/codec.steps", laid_copse_codec_steps)], narrowed := true }
def MetaBackUptoSaid : Prop := metaBackUptoRow.holds Tryd.pinned (OpenSpec.upto metaBackSpec)

/-- 'copselaw5.MetaOnly', WHERE WHAT IT READS IS OF BULK AT MOST 1048576: true; the input reads as it did. -/
def metaOnlyUptoRow : OpenClaim := { program := "ytoenacghkpgnpaadoor", sum := "032b6bf66f6b3817721e8dc8e9dff08fa1c27dfa4d4936ab0a2bcc5280f02a67", func := "copse/copselaw5.MetaOnly", spec := "metaOnly", named := ["copse/api.ErrArg", "copse/codec.steps", "copse/api.ErrText", "copse/api.ErrMany", "copse/api.ErrShort", "copse/api.ErrTwice", "copse/api.ErrLost", "copse/api.ErrFull", "copse/api.ErrDead", "copse/api.ErrCorrupt", "copse/api.ErrStatus", "copse/api.ErrTxid", "copse/api.ErrOrder", "copse/api.ErrKind"], apart := false, laid := [("copse/api.ErrArg", laid_copse_api_ErrArg), ("copse/api.ErrText", laid_copse_api_ErrText), ("copse/api.ErrMany", laid_copse_api_ErrMany), ("copse/api.ErrShort", laid_copse_api_ErrShort), ("copse/api.ErrTwice", laid_copse_api_ErrTwice), ("copse/api.ErrLost", laid_copse_api_ErrLost), ("copse/api.ErrFull", laid_copse_api_ErrFull), ("copse/api.ErrDead", laid_copse_api_ErrDead), ("copse/api.ErrCorrupt", laid_copse_api_ErrCorrupt), ("copse/api.ErrStatus", laid_copse_api_ErrStatus), ("copse/api.ErrTxid", laid_copse_api_ErrTxid), ("copse/api.ErrOrder", laid_copse_api_ErrOrder), ("copse/api.ErrKind", laid_copse_api_ErrKind), ("copse/codec.steps", laid_copse_codec_steps)], narrowed := true }
def MetaOnlyUptoSaid : Prop := metaOnlyUptoRow.holds Tryd.pinned (OpenSpec.upto metaOnlySpec)

/-- 'copselaw5.MetaBurst', WHERE WHAT IT READS IS OF BULK AT MOST 1048576: true; the input reads as it did. -/
def metaBurstUptoRow : OpenClaim := { program := "ytoenacghkpgnpaadoor", sum := "032b6bf66f6b3817721e8dc8e9dff08fa1c27dfa4d4936ab0a2bcc5280f02a67", func := "copse/copselaw5.MetaBurst", spec := "metaBurst", named := ["copse/api.ErrArg", "copse/codec.steps", "copse/api.ErrText", "copse/api.ErrMany", "copse/api.ErrShort", "copse/api.ErrTwice", "copse/api.ErrLost", "copse/api.ErrFull", "copse/api.ErrDead", "copse/api.ErrCorrupt", "copse/api.ErrStatus", "copse/api.ErrTxid", "copse/api.ErrOrder", "copse/api.ErrKind"], apart := false, laid := [("copse/api.ErrArg", laid_copse_api_ErrArg), ("copse/api.ErrText", laid_copse_api_ErrText), ("copse/api.ErrMany", laid_copse_api_ErrMany), ("copse/api.ErrShort", laid_copse_api_ErrShort), ("copse/api.ErrTwice", laid_copse_api_ErrTwice), ("copse/api.ErrLost", laid_copse_api_ErrLost), ("copse/api.ErrFull", laid_copse_api_ErrFull), ("copse/api.ErrDead", laid_copse_api_ErrDead), ("copse/api.ErrCorrupt", laid_copse_api_ErrCorrupt), ("copse/api.ErrStatus", laid_copse_api_ErrStatus), ("copse/api.ErrTxid", laid_copse_api_ErrTxid), ("copse/api.ErrOrder", laid_copse_api_ErrOrder), ("copse/api.ErrKind", laid_copse_api_ErrKind), ("copse/codec.steps", laid_copse_codec_steps)], narrowed := true }
def MetaBurstUptoSaid : Prop := metaBurstUptoRow.holds Tryd.pinned (OpenSpec.upto metaBurstSpec)

/-- 'copselaw5.MetaChooses', WHERE WHAT IT READS IS OF BULK AT MOST 1048576: true; the input reads as it did. -/
def metaChoosesUptoRow : OpenClaim := { program := "ytoenacghkpgnpaadoor", sum := "032b6bf66f6b3817721e8dc8e9dff08fa1c27dfa4d4936ab0a2bcc5280f02a67", func := "copse/copselaw5.MetaChooses", spec := "metaChooses", named := ["copse/api.ErrArg", "copse/api.ErrCorrupt", "copse/api.ErrText", "copse/codec.steps", "copse/api.ErrMany", "copse/api.ErrShort", "copse/api.ErrTwice", "copse/api.ErrLost", "copse/api.ErrFull", "copse/api.ErrDead", "copse/api.ErrStatus", "copse/api.ErrTxid", "copse/api.ErrOrder", "copse/api.ErrKind"], apart := false, laid := [("copse/api.ErrArg", laid_copse_api_ErrArg), ("copse/api.ErrText", laid_copse_api_ErrText), ("copse/api.ErrMany", laid_copse_api_ErrMany), ("copse/api.ErrShort", laid_copse_api_ErrShort), ("copse/api.ErrTwice", laid_copse_api_ErrTwice), ("copse/api.ErrLost", laid_copse_api_ErrLost), ("copse/api.ErrFull", laid_copse_api_ErrFull), ("copse/api.ErrDead", laid_copse_api_ErrDead), ("copse/api.ErrCorrupt", laid_copse_api_ErrCorrupt), ("copse/api.ErrStatus", laid_copse_api_ErrStatus), ("copse/api.ErrTxid", laid_copse_api_ErrTxid), ("copse/api.ErrOrder", laid_copse_api_ErrOrder), ("copse/api.ErrKind", laid_copse_api_ErrKind), ("copse/codec.steps", laid_copse_codec_steps)], narrowed := true }
def MetaChoosesUptoSaid : Prop := metaChoosesUptoRow.holds Tryd.pinned (OpenSpec.upto metaChoosesSpec)

/-- 'copselaw5.MetaMemory', WHERE WHAT IT READS IS OF BULK AT MOST 1048576: true; the input reads as it did. -/
def metaMemoryUptoRow : OpenClaim := { program := "ytoenacghkpgnpaadoor", sum := "032b6bf66f6b3817721e8dc8e9dff08fa1c27dfa4d4936ab0a2bcc5280f02a67", func := "copse/copselaw5.MetaMemory", spec := "metaMemory", named := ["copse/api.ErrArg", "copse/codec.steps", "copse/api.ErrText", "copse/api.ErrCorrupt", "copse/api.ErrMany", "copse/api.ErrShort", "copse/api.ErrTwice", "copse/api.ErrLost", "copse/api.ErrFull", "copse/api.ErrDead", "copse/api.ErrStatus", "copse/api.ErrTxid", "copse/api.ErrOrder", "copse/api.ErrKind"], apart := false, laid := [("copse/api.ErrArg", laid_copse_api_ErrArg), ("copse/api.ErrText", laid_copse_api_ErrText), ("copse/api.ErrMany", laid_copse_api_ErrMany), ("copse/api.ErrShort", laid_copse_api_ErrShort), ("copse/api.ErrTwice", laid_copse_api_ErrTwice), ("copse/api.ErrLost", laid_copse_api_ErrLost), ("copse/api.ErrFull", laid_copse_api_ErrFull), ("copse/api.ErrDead", laid_copse_api_ErrDead), ("copse/api.ErrCorrupt", laid_copse_api_ErrCorrupt), ("copse/api.ErrStatus", laid_copse_api_ErrStatus), ("copse/api.ErrTxid", laid_copse_api_ErrTxid), ("copse/api.ErrOrder", laid_copse_api_ErrOrder), ("copse/api.ErrKind", laid_copse_api_ErrKind), ("copse/codec.steps", laid_copse_codec_steps)], narrowed := true }
def MetaMemoryUptoSaid : Prop := metaMemoryUptoRow.holds Tryd.pinned (OpenSpec.upto metaMemorySpec)

/-- 'copselaw4.SheetLasts', WHERE WHAT IT READS IS OF BULK AT MOST 1048576: true; the input reads as it did. -/
def sheetLastsUptoRow : OpenClaim := { program := "ytoenacghkpgnpaadoor", sum := "032b6bf66f6b3817721e8dc8e9dff08fa1c27dfa4d4936ab0a2bcc5280f02a67", func := "copse/copselaw4.SheetLasts", spec := "sheetLasts", unfollowed := true, recurses := true, named := ["copse/api.ErrArg", "copse/sheet.head", "copse/codec.steps", "copse/api.ErrText", "copse/api.ErrDead", "copse/api.ErrMany"], apart := false, laid := [("copse/api.ErrArg", laid_copse_api_ErrArg), ("copse/api.ErrText", laid_copse_api_ErrText), ("copse/api.ErrMany", laid_copse_api_ErrMany), ("copse/api.ErrDead", laid_copse_api_ErrDead), ("copse/codec.steps", laid_copse_codec_steps), ("copse/sheet.head", laid_copse_sheet_head)], narrowed := true }
def SheetLastsUptoSaid : Prop := sheetLastsUptoRow.holds Tryd.pinned (OpenSpec.upto sheetLastsSpec)

/-- 'copselaw5.MetaTurns', WHERE WHAT IT READS IS OF BULK AT MOST 1048576: true; the input reads as it did. -/
def metaTurnsUptoRow : OpenClaim := { program := "ytoenacghkpgnpaadoor", sum := "032b6bf66f6b3817721e8dc8e9dff08fa1c27dfa4d4936ab0a2bcc5280f02a67", func := "copse/copselaw5.MetaTurns", spec := "metaTurns", named := ["copse/api.ErrArg", "copse/codec.steps", "copse/api.ErrDead", "copse/api.ErrCorrupt", "copse/api.ErrMany", "copse/api.ErrText"], apart := false, laid := [("copse/api.ErrArg", laid_copse_api_ErrArg), ("copse/api.ErrText", laid_copse_api_ErrText), ("copse/api.ErrMany", laid_copse_api_ErrMany), ("copse/api.ErrDead", laid_copse_api_ErrDead), ("copse/api.ErrCorrupt", laid_copse_api_ErrCorrupt), ("copse/codec.steps", laid_copse_codec_steps)], narrowed := true }
def MetaTurnsUptoSaid : Prop := metaTurnsUptoRow.holds Tryd.pinned (OpenSpec.upto metaTurnsSpec)

end Rows
end Go.Proofs.YtoenacghkpgnpaaDoor
