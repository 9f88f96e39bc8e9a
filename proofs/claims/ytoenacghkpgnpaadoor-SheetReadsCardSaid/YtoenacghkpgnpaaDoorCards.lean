/-
  DERIVED. GIVEN WITH THE SEED: THE CARDS: each row of YtoenacghkpgnpaaDoorRows.lean that lists a variable, with what it lists TIED to the program's text (the seventh form; the later family's looks); each row that meets fmt, with fmt's text TOLD by the authors' own Lean function (tested against real Go, not proved from fmt's source: count such statements apart). THE CARD IS WHAT COUNTS. Prove the row's statement (the work); the ties are given (YtoenacghkpgnpaaDoorTie.lean); close each card by the builder's one call (the guide's Derived/Test/ToyasCard.lean, 'card_holds'). Laid BY PROGRAM, IN A SANDBOX (cutbox-door.mjs). By AI agents, Wed Nov 11 2026. No macro, syntax, notation, axiom, sorry.
-/
import Derived.Test.YtoenacghkpgnpaaDoorRows
import GoSem.ClaimSeven
namespace Go.Proofs.YtoenacghkpgnpaaDoor
namespace Rows

/-- THE TIED CARD OF 'copselaw5.MetaEncodes'. -/
def metaEncodesCard : Claim7 := { stood := { row := metaEncodesRow, standIns := [], harness := (true, "cc2bcb1a41cc3ab2981d9e5dbfa0725a58c3fe7c0d4b08f9de989b32efc7f94e"), looks := true }, kinds := [], alts := [], laidByText := true, laidKinds := [.sentinel, .sentinel, .sentinel, .sentinel, .sentinel, .sentinel, .sentinel, .sentinel, .sentinel, .sentinel, .sentinel, .sentinel, .sentinel, .data], laidTests := true, laidLooks := .later }
def MetaEncodesCardSaid : Prop := Claim7.holds Tryd.pinned (.plain (OpenSpec.ofChange metaEncodesSpec)) metaEncodesCard

/-- THE TIED CARD OF 'copselaw4.SheetSeals'. -/
def sheetSealsCard : Claim7 := { stood := { row := sheetSealsRow, standIns := [], harness := (true, "cc2bcb1a41cc3ab2981d9e5dbfa0725a58c3fe7c0d4b08f9de989b32efc7f94e"), looks := true }, kinds := [], alts := [], laidByText := true, laidKinds := [.sentinel, .sentinel, .sentinel, .sentinel, .sentinel, .sentinel, .sentinel, .sentinel, .sentinel, .sentinel, .sentinel, .sentinel, .sentinel, .data, .data], laidTests := true, laidLooks := .later }
def SheetSealsCardSaid : Prop := Claim7.holds Tryd.pinned (.plain (OpenSpec.ofChange sheetSealsSpec)) sheetSealsCard

/-- THE TIED CARD OF 'copselaw5.MetaDecodes'. -/
def metaDecodesCard : Claim7 := { stood := { row := metaDecodesRow, standIns := [], harness := (true, "cc2bcb1a41cc3ab2981d9e5dbfa0725a58c3fe7c0d4b08f9de989b32efc7f94e"), looks := true }, kinds := [], alts := [], laidByText := true, laidKinds := [.sentinel, .sentinel, .sentinel, .sentinel, .sentinel, .sentinel, .sentinel, .sentinel, .sentinel, .sentinel, .sentinel, .sentinel, .sentinel, .data], laidTests := true, laidLooks := .later }
def MetaDecodesCardSaid : Prop := Claim7.holds Tryd.pinned (.plain (OpenSpec.ofChange metaDecodesSpec)) metaDecodesCard

/-- THE TIED CARD OF 'copselaw4.SheetReads'. -/
def sheetReadsCard : Claim7 := { stood := { row := sheetReadsRow, standIns := [], harness := (true, "cc2bcb1a41cc3ab2981d9e5dbfa0725a58c3fe7c0d4b08f9de989b32efc7f94e"), looks := true }, kinds := [], alts := [], laidByText := true, laidKinds := [.sentinel, .sentinel, .sentinel, .sentinel, .sentinel, .sentinel, .sentinel, .sentinel, .sentinel, .sentinel, .sentinel, .sentinel, .sentinel, .data, .data], laidTests := true, laidLooks := .later }
def SheetReadsCardSaid : Prop := Claim7.holds Tryd.pinned (.plain (OpenSpec.ofChange sheetReadsSpec)) sheetReadsCard

/-- THE TIED CARD OF 'copselaw4.SheetBack'. -/
def sheetBackCard : Claim7 := { stood := { row := sheetBackRow, standIns := [], harness := (true, "cc2bcb1a41cc3ab2981d9e5dbfa0725a58c3fe7c0d4b08f9de989b32efc7f94e"), looks := true }, kinds := [], alts := [], laidByText := true, laidKinds := [.sentinel, .sentinel, .sentinel, .sentinel, .sentinel, .sentinel, .sentinel, .sentinel, .sentinel, .sentinel, .sentinel, .sentinel, .sentinel, .data, .data], laidTests := true, laidLooks := .later }
def SheetBackCardSaid : Prop := Claim7.holds Tryd.pinned (.plain (OpenSpec.ofChange sheetBackSpec)) sheetBackCard

/-- THE TIED CARD OF 'copselaw4.SheetBursts'. -/
def sheetBurstsCard : Claim7 := { stood := { row := sheetBurstsRow, standIns := [], harness := (true, "cc2bcb1a41cc3ab2981d9e5dbfa0725a58c3fe7c0d4b08f9de989b32efc7f94e"), looks := true }, kinds := [], alts := [], laidByText := true, laidKinds := [.sentinel, .sentinel, .sentinel, .sentinel, .sentinel, .sentinel, .sentinel, .sentinel, .sentinel, .sentinel, .sentinel, .sentinel, .sentinel, .data, .data], laidTests := true, laidLooks := .later }
def SheetBurstsCardSaid : Prop := Claim7.holds Tryd.pinned (.plain (OpenSpec.ofChange sheetBurstsSpec)) sheetBurstsCard

/-- THE TIED CARD OF 'copselaw5.MetaBack'. -/
def metaBackCard : Claim7 := { stood := { row := metaBackRow, standIns := [], harness := (true, "cc2bcb1a41cc3ab2981d9e5dbfa0725a58c3fe7c0d4b08f9de989b32efc7f94e"), looks := true }, kinds := [], alts := [], laidByText := true, laidKinds := [.sentinel, .sentinel, .sentinel, .sentinel, .sentinel, .sentinel, .sentinel, .sentinel, .sentinel, .sentinel, .sentinel, .sentinel, .sentinel, .data], laidTests := true, laidLooks := .later }
def MetaBackCardSaid : Prop := Claim7.holds Tryd.pinned (.plain (OpenSpec.ofChange metaBackSpec)) metaBackCard

/-- THE TIED CARD OF 'copselaw5.MetaOnly'. -/
def metaOnlyCard : Claim7 := { stood := { row := metaOnlyRow, standIns := [], harness := (true, "cc2bcb1a41cc3ab2981d9e5dbfa0725a58c3fe7c0d4b08f9de989b32efc7f94e"), looks := true }, kinds := [], alts := [], laidByText := true, laidKinds := [.sentinel, .sentinel, .sentinel, .sentinel, .sentinel, .sentinel, .sentinel, .sentinel, .sentinel, .sentinel, .sentinel, .sentinel, .sentinel, .data], laidTests := true, laidLooks := .later }
def MetaOnlyCardSaid : Prop := Claim7.holds Tryd.pinned (.plain (OpenSpec.ofChange metaOnlySpec)) metaOnlyCard

/-- THE TIED CARD OF 'copselaw5.MetaBurst'. -/
def metaBurstCard : Claim7 := { stood := { row := metaBurstRow, standIns := [], harness := (true, "cc2bcb1a41cc3ab2981d9e5dbfa0725a58c3fe7c0d4b08f9de989b32efc7f94e"), looks := true }, kinds := [], alts := [], laidByText := true, laidKinds := [.sentinel, .sentinel, .sentinel, .sentinel, .sentinel, .sentinel, .sentinel, .sentinel, .sentinel, .sentinel, .sentinel, .sentinel, .sentinel, .data], laidTests := true, laidLooks := .later }
def MetaBurstCardSaid : Prop := Claim7.holds Tryd.pinned (.plain (OpenSpec.ofChange metaBurstSpec)) metaBurstCard

/-- THE TIED CARD OF 'copselaw5.MetaChooses'. -/
def metaChoosesCard : Claim7 := { stood := { row := metaChoosesRow, standIns := [], harness := (true, "cc2bcb1a41cc3ab2981d9e5dbfa0725a58c3fe7c0d4b08f9de989b32efc7f94e"), looks := true }, kinds := [], alts := [], laidByText := true, laidKinds := [.sentinel, .sentinel, .sentinel, .sentinel, .sentinel, .sentinel, .sentinel, .sentinel, .sentinel, .sentinel, .sentinel, .sentinel, .sentinel, .data], laidTests := true, laidLooks := .later }
def MetaChoosesCardSaid : Prop := Claim7.holds Tryd.pinned (.plain (OpenSpec.ofChange metaChoosesSpec)) metaChoosesCard

/-- THE TIED CARD OF 'copselaw5.MetaMemory'. -/
def metaMemoryCard : Claim7 := { stood := { row := metaMemoryRow, standIns := [], harness := (true, "cc2bcb1a41cc3ab2981d9e5dbfa0725a58c3fe7c0d4b08f9de989b32efc7f94e"), looks := true }, kinds := [], alts := [], laidByText := true, laidKinds := [.sentinel, .sentinel, .sentinel, .sentinel, .sentinel, .sentinel, .sentinel, .sentinel, .sentinel, .sentinel, .sentinel, .sentinel, .sentinel, .data], laidTests := true, laidLooks := .later }
def MetaMemoryCardSaid : Prop := Claim7.holds Tryd.pinned (.plain (OpenSpec.ofChange metaMemorySpec)) metaMemoryCard

/-- THE TIED CARD OF 'copselaw4.SheetLasts'. -/
def sheetLastsCard : Claim7 := { stood := { row := sheetLastsRow, standIns := [], harness := (true, "cc2bcb1a41cc3ab2981d9e5dbfa0725a58c3fe7c0d4b08f9de989b32efc7f94e"), looks := true }, kinds := [], alts := [], laidByText := true, laidKinds := [.sentinel, .sentinel, .sentinel, .sentinel, .data, .data], laidTests := true, laidLooks := .later }
def SheetLastsCardSaid : Prop := Claim7.holds Tryd.pinned (.plain (OpenSpec.ofChange sheetLastsSpec)) sheetLastsCard

/-- THE TIED CARD OF 'copselaw5.MetaTurns'. -/
def metaTurnsCard : Claim7 := { stood := { row := metaTurnsRow, standIns := [], harness := (true, "cc2bcb1a41cc3ab2981d9e5dbfa0725a58c3fe7c0d4b08f9de989b32efc7f94e"), looks := true }, kinds := [], alts := [], laidByText := true, laidKinds := [.sentinel, .sentinel, .sentinel, .sentinel, .sentinel, .data], laidTests := true, laidLooks := .later }
def MetaTurnsCardSaid : Prop := Claim7.holds Tryd.pinned (.plain (OpenSpec.ofChange metaTurnsSpec)) metaTurnsCard

/-- THE SECOND FORM's CARD OF 'copselaw5.MetaEncodes'. -/
def metaEncodesUptoCard : Claim7 := { stood := { row := metaEncodesUptoRow, standIns := [], harness := (true, "cc2bcb1a41cc3ab2981d9e5dbfa0725a58c3fe7c0d4b08f9de989b32efc7f94e"), looks := true }, kinds := [], alts := [], laidByText := true, laidKinds := [.sentinel, .sentinel, .sentinel, .sentinel, .sentinel, .sentinel, .sentinel, .sentinel, .sentinel, .sentinel, .sentinel, .sentinel, .sentinel, .data], laidTests := true, laidLooks := .later }
def MetaEncodesUptoCardSaid : Prop := Claim7.holds Tryd.pinned (.plain (OpenSpec.upto metaEncodesSpec)) metaEncodesUptoCard

/-- THE SECOND FORM's CARD OF 'copselaw4.SheetSeals'. -/
def sheetSealsUptoCard : Claim7 := { stood := { row := sheetSealsUptoRow, standIns := [], harness := (true, "cc2bcb1a41cc3ab2981d9e5dbfa0725a58c3fe7c0d4b08f9de989b32efc7f94e"), looks := true }, kinds := [], alts := [], laidByText := true, laidKinds := [.sentinel, .sentinel, .sentinel, .sentinel, .sentinel, .sentinel, .sentinel, .sentinel, .sentinel, .sentinel, .sentinel, .sentinel, .sentinel, .data, .data], laidTests := true, laidLooks := .later }
def SheetSealsUptoCardSaid : Prop := Claim7.holds Tryd.pinned (.plain (OpenSpec.upto sheetSealsSpec)) sheetSealsUptoCard

/-- THE SECOND FORM's CARD OF 'copselaw5.MetaDecodes'. -/
def metaDecodesUptoCard : Claim7 := { stood := { row := metaDecodesUptoRow, standIns := [], harness := (true, "cc2bcb1a41cc3ab2981d9e5dbfa0725a58c3fe7c0d4b08f9de989b32efc7f94e"), looks := true }, kinds := [], alts := [], laidByText := true, laidKinds := [.sentinel, .sentinel, .sentinel, .sentinel, .sentinel, .sentinel, .sentinel, .sentinel, .sentinel, .sentinel, .sentinel, .sentinel, .sentinel, .data], laidTests := true, laidLooks := .later }
def MetaDecodesUptoCardSaid : Prop := Claim7.holds Tryd.pinned (.plain (OpenSpec.upto metaDecodesSpec)) metaDecodesUptoCard

/-- THE SECOND FORM's CARD OF 'copselaw4.SheetReads'. -/
def sheetReadsUptoCard : Claim7 := { stood := { row := sheetReadsUptoRow, standIns := [], harness := (true, "cc2bcb1a41cc3ab2981d9e5dbfa0725a58c3fe7c0d4b08f9de989b32efc7f94e"), looks := true }, kinds := [], alts := [], laidByText := true, laidKinds := [.sentinel, .sentinel, .sentinel, .sentinel, .sentinel, .sentinel, .sentinel, .sentinel, .sentinel, .sentinel, .sentinel, .sentinel, .sentinel, .data, .data], laidTests := true, laidLooks := .later }
def SheetReadsUptoCardSaid : Prop := Claim7.holds Tryd.pinned (.plain (OpenSpec.upto sheetReadsSpec)) sheetReadsUptoCard

/-- THE SECOND FORM's CARD OF 'copselaw4.SheetBack'. -/
def sheetBackUptoCard : Claim7 := { stood := { row := sheetBackUptoRow, standIns := [], harness := (true, "cc2bcb1a41cc3ab2981d9e5dbfa0725a58c3fe7c0d4b08f9de989b32efc7f94e"), looks := true }, kinds := [], alts := [], laidByText := true, laidKinds := [.sentinel, .sentinel, .sentinel, .sentinel, .sentinel, .sentinel, .sentinel, .sentinel, .sentinel, .sentinel, .sentinel, .sentinel, .sentinel, .data, .data], laidTests := true, laidLooks := .later }
def SheetBackUptoCardSaid : Prop := Claim7.holds Tryd.pinned (.plain (OpenSpec.upto sheetBackSpec)) sheetBackUptoCard

/-- THE SECOND FORM's CARD OF 'copselaw4.SheetBursts'. -/
def sheetBurstsUptoCard : Claim7 := { stood := { row := sheetBurstsUptoRow, standIns := [], harness := (true, "cc2bcb1a41cc3ab2981d9e5dbfa0725a58c3fe7c0d4b08f9de989b32efc7f94e"), looks := true }, kinds := [], alts := [], laidByText := true, laidKinds := [.sentinel, .sentinel, .sentinel, .sentinel, .sentinel, .sentinel, .sentinel, .sentinel, .sentinel, .sentinel, .sentinel, .sentinel, .sentinel, .data, .data], laidTests := true, laidLooks := .later }
def SheetBurstsUptoCardSaid : Prop := Claim7.holds Tryd.pinned (.plain (OpenSpec.upto sheetBurstsSpec)) sheetBurstsUptoCard

/-- THE SECOND FORM's CARD OF 'copselaw5.MetaBack'. -/
def metaBackUptoCard : Claim7 := { stood := { row := metaBackUptoRow, standIns := [], harness := (true, "cc2bcb1a41cc3ab2981d9e5dbfa0725a58c3fe7c0d4b08f9de989b32efc7f94e"), looks := true }, kinds := [], alts := [], laidByText := true, laidKinds := [.sentinel, .sentinel, .sentinel, .sentinel, .sentinel, .sentinel, .sentinel, .sentinel, .sentinel, .sentinel, .sentinel, .sentinel, .sentinel, .data], laidTests := true, laidLooks := .later }
def MetaBackUptoCardSaid : Prop := Claim7.holds Tryd.pinned (.plain (OpenSpec.upto metaBackSpec)) metaBackUptoCard

/-- THE SECOND FORM's CARD OF 'copselaw5.MetaOnly'. -/
def metaOnlyUptoCard : Claim7 := { stood := { row := metaOnlyUptoRow, standIns := [], harness := (true, "cc2bcb1a41cc3ab2981d9e5dbfa0725a58c3fe7c0d4b08f9de989b32efc7f94e"), looks := true }, kinds := [], alts := [], laidByText := true, laidKinds := [.sentinel, .sentinel, .sentinel, .sentinel, .sentinel, .sentinel, .sentinel, .sentinel, .sentinel, .sentinel, .sentinel, .sentinel, .sentinel, .data], laidTests := true, laidLooks := .later }
def MetaOnlyUptoCardSaid : Prop := Claim7.holds Tryd.pinned (.plain (OpenSpec.upto metaOnlySpec)) metaOnlyUptoCard

/-- THE SECOND FORM's CARD OF 'copselaw5.MetaBurst'. -/
def metaBurstUptoCard : Claim7 := { stood := { row := metaBurstUptoRow, standIns := [], harness := (true, "cc2bcb1a41cc3ab2981d9e5dbfa0725a58c3fe7c0d4b08f9de989b32efc7f94e"), looks := true }, kinds := [], alts := [], laidByText := true, laidKinds := [.sentinel, .sentinel, .sentinel, .sentinel, .sentinel, .sentinel, .sentinel, .sentinel, .sentinel, .sentinel, .sentinel, .sentinel, .sentinel, .data], laidTests := true, laidLooks := .later }
def MetaBurstUptoCardSaid : Prop := Claim7.holds Tryd.pinned (.plain (OpenSpec.upto metaBurstSpec)) metaBurstUptoCard

/-- THE SECOND FORM's CARD OF 'copselaw5.MetaChooses'. -/
def metaChoosesUptoCard : Claim7 := { stood := { row := metaChoosesUptoRow, standIns := [], harness := (true, "cc2bcb1a41cc3ab2981d9e5dbfa0725a58c3fe7c0d4b08f9de989b32efc7f94e"), looks := true }, kinds := [], alts := [], laidByText := true, laidKinds := [.sentinel, .sentinel, .sentinel, .sentinel, .sentinel, .sentinel, .sentinel, .sentinel, .sentinel, .sentinel, .sentinel, .sentinel, .sentinel, .data], laidTests := true, laidLooks := .later }
def MetaChoosesUptoCardSaid : Prop := Claim7.holds Tryd.pinned (.plain (OpenSpec.upto metaChoosesSpec)) metaChoosesUptoCard

/-- THE SECOND FORM's CARD OF 'copselaw5.MetaMemory'. -/
def metaMemoryUptoCard : Claim7 := { stood := { row := metaMemoryUptoRow, standIns := [], harness := (true, "cc2bcb1a41cc3ab2981d9e5dbfa0725a58c3fe7c0d4b08f9de989b32efc7f94e"), looks := true }, kinds := [], alts := [], laidByText := true, laidKinds := [.sentinel, .sentinel, .sentinel, .sentinel, .sentinel, .sentinel, .sentinel, .sentinel, .sentinel, .sentinel, .sentinel, .sentinel, .sentinel, .data], laidTests := true, laidLooks := .later }
def MetaMemoryUptoCardSaid : Prop := Claim7.holds Tryd.pinned (.plain (OpenSpec.upto metaMemorySpec)) metaMemoryUptoCard

/-- THE SECOND FORM's CARD OF 'copselaw4.SheetLasts'. -/
def sheetLastsUptoCard : Claim7 := { stood := { row := sheetLastsUptoRow, standIns := [], harness := (true, "cc2bcb1a41cc3ab2981d9e5dbfa0725a58c3fe7c0d4b08f9de989b32efc7f94e"), looks := true }, kinds := [], alts := [], laidByText := true, laidKinds := [.sentinel, .sentinel, .sentinel, .sentinel, .data, .data], laidTests := true, laidLooks := .later }
def SheetLastsUptoCardSaid : Prop := Claim7.holds Tryd.pinned (.plain (OpenSpec.upto sheetLastsSpec)) sheetLastsUptoCard

/-- THE SECOND FORM's CARD OF 'copselaw5.MetaTurns'. -/
def metaTurnsUptoCard : Claim7 := { stood := { row := metaTurnsUptoRow, standIns := [], harness := (true, "cc2bcb1a41cc3ab2981d9e5dbfa0725a58c3fe7c0d4b08f9de989b32efc7f94e"), looks := true }, kinds := [], alts := [], laidByText := true, laidKinds := [.sentinel, .sentinel, .sentinel, .sentinel, .sentinel, .data], laidTests := true, laidLooks := .later }
def MetaTurnsUptoCardSaid : Prop := Claim7.holds Tryd.pinned (.plain (OpenSpec.upto metaTurnsSpec)) metaTurnsUptoCard
end Rows
end Go.Proofs.YtoenacghkpgnpaaDoor
