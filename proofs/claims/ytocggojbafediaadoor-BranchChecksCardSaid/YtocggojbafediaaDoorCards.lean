/-
  DERIVED. GIVEN WITH THE SEED: THE CARDS: each row of YtocggojbafediaaDoorRows.lean that lists a variable, with what it lists TIED to the program's text (the seventh form; the later family's looks); each row that meets fmt, with fmt's text TOLD by the authors' own Lean function (tested against real Go, not proved from fmt's source: count such statements apart). THE CARD IS WHAT COUNTS. Prove the row's statement (the work); the ties are given (YtocggojbafediaaDoorTie.lean); close each card by the builder's one call (the guide's Derived/Test/ToyasCard.lean, 'card_holds'). Laid BY PROGRAM, IN A SANDBOX (cutbox-door.mjs). By AI agents, Wed Nov 11 2026. No macro, syntax, notation, axiom, sorry.
-/
import Derived.Test.YtocggojbafediaaDoorRows
import GoSem.ClaimSeven
namespace Go.Proofs.YtocggojbafediaaDoor
namespace Rows

/-- THE TIED CARD OF 'copselaw8.BranchCuts'. -/
def branchCutsCard : Claim7 := { stood := { row := branchCutsRow, standIns := [], harness := (true, "36802763c3253418668cfb00ef848d872ec22d9b5839e09a6c4e7d508fd51605"), looks := true }, kinds := [], alts := [], laidByText := true, laidKinds := [.sentinel, .sentinel, .sentinel, .sentinel, .sentinel, .sentinel, .sentinel, .sentinel, .sentinel, .sentinel, .sentinel, .sentinel, .sentinel], laidTests := true, laidLooks := .later }
def BranchCutsCardSaid : Prop := Claim7.holds Tryd.pinned (.plain (OpenSpec.ofChange branchCutsSpec)) branchCutsCard

/-- THE TIED CARD OF 'copselaw8.BranchEdit'. -/
def branchEditCard : Claim7 := { stood := { row := branchEditRow, standIns := [], harness := (true, "36802763c3253418668cfb00ef848d872ec22d9b5839e09a6c4e7d508fd51605"), looks := true }, kinds := [], alts := [], laidByText := true, laidKinds := [.sentinel], laidTests := true, laidLooks := .later }
def BranchEditCardSaid : Prop := Claim7.holds Tryd.pinned (.plain (OpenSpec.ofChange branchEditSpec)) branchEditCard

/-- THE TIED CARD OF 'copselaw8.BranchEdits'. -/
def branchEditsCard : Claim7 := { stood := { row := branchEditsRow, standIns := [], harness := (true, "36802763c3253418668cfb00ef848d872ec22d9b5839e09a6c4e7d508fd51605"), looks := true }, kinds := [], alts := [], laidByText := true, laidKinds := [.sentinel, .sentinel, .sentinel, .sentinel, .sentinel, .sentinel, .sentinel, .sentinel, .sentinel, .sentinel, .sentinel, .sentinel, .sentinel], laidTests := true, laidLooks := .later }
def BranchEditsCardSaid : Prop := Claim7.holds Tryd.pinned (.plain (OpenSpec.ofChange branchEditsSpec)) branchEditsCard

/-- THE TIED CARD OF 'copselaw8.BranchChecks'. -/
def branchChecksCard : Claim7 := { stood := { row := branchChecksRow, standIns := [], harness := (true, "36802763c3253418668cfb00ef848d872ec22d9b5839e09a6c4e7d508fd51605"), looks := true }, kinds := [], alts := [], laidByText := true, laidKinds := [.sentinel, .sentinel, .sentinel, .sentinel, .sentinel, .sentinel, .sentinel, .sentinel, .sentinel, .sentinel, .sentinel, .sentinel, .sentinel], laidTests := true, laidLooks := .later }
def BranchChecksCardSaid : Prop := Claim7.holds Tryd.pinned (.plain (OpenSpec.ofChange branchChecksSpec)) branchChecksCard

/-- THE TIED CARD OF 'copselaw8.BranchEncodes'. -/
def branchEncodesCard : Claim7 := { stood := { row := branchEncodesRow, standIns := [], harness := (true, "36802763c3253418668cfb00ef848d872ec22d9b5839e09a6c4e7d508fd51605"), looks := true }, kinds := [], alts := [], laidByText := true, laidKinds := [.sentinel, .sentinel, .sentinel, .sentinel, .sentinel, .sentinel, .sentinel, .sentinel, .sentinel, .sentinel, .sentinel, .sentinel, .sentinel], laidTests := true, laidLooks := .later }
def BranchEncodesCardSaid : Prop := Claim7.holds Tryd.pinned (.plain (OpenSpec.ofChange branchEncodesSpec)) branchEncodesCard

/-- THE TIED CARD OF 'copselaw8.BranchDecodes'. -/
def branchDecodesCard : Claim7 := { stood := { row := branchDecodesRow, standIns := [], harness := (true, "36802763c3253418668cfb00ef848d872ec22d9b5839e09a6c4e7d508fd51605"), looks := true }, kinds := [], alts := [], laidByText := true, laidKinds := [.sentinel, .sentinel, .sentinel, .sentinel, .sentinel, .sentinel, .sentinel, .sentinel, .sentinel, .sentinel, .sentinel, .sentinel, .sentinel], laidTests := true, laidLooks := .later }
def BranchDecodesCardSaid : Prop := Claim7.holds Tryd.pinned (.plain (OpenSpec.ofChange branchDecodesSpec)) branchDecodesCard

/-- THE TIED CARD OF 'copselaw8.BranchBack'. -/
def branchBackCard : Claim7 := { stood := { row := branchBackRow, standIns := [], harness := (true, "36802763c3253418668cfb00ef848d872ec22d9b5839e09a6c4e7d508fd51605"), looks := true }, kinds := [], alts := [], laidByText := true, laidKinds := [.sentinel, .sentinel, .sentinel, .sentinel, .sentinel, .sentinel, .sentinel, .sentinel, .sentinel, .sentinel, .sentinel, .sentinel, .sentinel], laidTests := true, laidLooks := .later }
def BranchBackCardSaid : Prop := Claim7.holds Tryd.pinned (.plain (OpenSpec.ofChange branchBackSpec)) branchBackCard

/-- THE TIED CARD OF 'copselaw8.BranchOnly'. -/
def branchOnlyCard : Claim7 := { stood := { row := branchOnlyRow, standIns := [], harness := (true, "36802763c3253418668cfb00ef848d872ec22d9b5839e09a6c4e7d508fd51605"), looks := true }, kinds := [], alts := [], laidByText := true, laidKinds := [.sentinel, .sentinel, .sentinel, .sentinel, .sentinel, .sentinel, .sentinel, .sentinel, .sentinel, .sentinel, .sentinel, .sentinel, .sentinel], laidTests := true, laidLooks := .later }
def BranchOnlyCardSaid : Prop := Claim7.holds Tryd.pinned (.plain (OpenSpec.ofChange branchOnlySpec)) branchOnlyCard

/-- THE TIED CARD OF 'copselaw8.BranchHalves'. -/
def branchHalvesCard : Claim7 := { stood := { row := branchHalvesRow, standIns := [], harness := (true, "36802763c3253418668cfb00ef848d872ec22d9b5839e09a6c4e7d508fd51605"), looks := true }, kinds := [], alts := [], laidByText := true, laidKinds := [.sentinel, .sentinel, .sentinel, .sentinel, .sentinel, .sentinel, .sentinel, .sentinel, .sentinel, .sentinel, .sentinel, .sentinel, .sentinel], laidTests := true, laidLooks := .later }
def BranchHalvesCardSaid : Prop := Claim7.holds Tryd.pinned (.plain (OpenSpec.ofChange branchHalvesSpec)) branchHalvesCard

/-- THE TIED CARD OF 'copselaw8.BranchMemory'. -/
def branchMemoryCard : Claim7 := { stood := { row := branchMemoryRow, standIns := [], harness := (true, "36802763c3253418668cfb00ef848d872ec22d9b5839e09a6c4e7d508fd51605"), looks := true }, kinds := [], alts := [], laidByText := true, laidKinds := [.sentinel, .sentinel, .sentinel, .sentinel, .sentinel, .sentinel, .sentinel, .sentinel, .sentinel, .sentinel, .sentinel, .sentinel, .sentinel], laidTests := true, laidLooks := .later }
def BranchMemoryCardSaid : Prop := Claim7.holds Tryd.pinned (.plain (OpenSpec.ofChange branchMemorySpec)) branchMemoryCard

/-- THE TIED CARD OF 'copselaw15.ScriptWords'. -/
def scriptWordsCard : Claim7 := { stood := { row := scriptWordsRow, standIns := [], harness := (true, "36802763c3253418668cfb00ef848d872ec22d9b5839e09a6c4e7d508fd51605"), looks := true }, kinds := [], alts := [], laidByText := true, laidKinds := [.data, .sentinel, .sentinel, .sentinel, .sentinel, .sentinel, .sentinel, .sentinel, .sentinel, .sentinel, .sentinel, .sentinel, .sentinel, .sentinel, .pinned], laidTests := true, laidLooks := .later }
def ScriptWordsCardSaid : Prop := Claim7.holds Tryd.pinned (.plain (OpenSpec.ofChange scriptWordsSpec)) scriptWordsCard

/-- THE TIED CARD OF 'copselaw15.ScriptQuote'. -/
def scriptQuoteCard : Claim7 := { stood := { row := scriptQuoteRow, standIns := [], harness := (true, "36802763c3253418668cfb00ef848d872ec22d9b5839e09a6c4e7d508fd51605"), looks := true }, kinds := [], alts := [], laidByText := true, laidKinds := [.data, .sentinel, .pinned], laidTests := true, laidLooks := .later }
def ScriptQuoteCardSaid : Prop := Claim7.holds Tryd.pinned (.plain (OpenSpec.ofChange scriptQuoteSpec)) scriptQuoteCard

/-- THE SECOND FORM's CARD OF 'copselaw8.BranchCuts'. -/
def branchCutsUptoCard : Claim7 := { stood := { row := branchCutsUptoRow, standIns := [], harness := (true, "36802763c3253418668cfb00ef848d872ec22d9b5839e09a6c4e7d508fd51605"), looks := true }, kinds := [], alts := [], laidByText := true, laidKinds := [.sentinel, .sentinel, .sentinel, .sentinel, .sentinel, .sentinel, .sentinel, .sentinel, .sentinel, .sentinel, .sentinel, .sentinel, .sentinel], laidTests := true, laidLooks := .later }
def BranchCutsUptoCardSaid : Prop := Claim7.holds Tryd.pinned (.plain (OpenSpec.upto branchCutsSpec)) branchCutsUptoCard

/-- THE SECOND FORM's CARD OF 'copselaw8.BranchEdit'. -/
def branchEditUptoCard : Claim7 := { stood := { row := branchEditUptoRow, standIns := [], harness := (true, "36802763c3253418668cfb00ef848d872ec22d9b5839e09a6c4e7d508fd51605"), looks := true }, kinds := [], alts := [], laidByText := true, laidKinds := [.sentinel], laidTests := true, laidLooks := .later }
def BranchEditUptoCardSaid : Prop := Claim7.holds Tryd.pinned (.plain (OpenSpec.upto branchEditSpec)) branchEditUptoCard

/-- THE SECOND FORM's CARD OF 'copselaw8.BranchEdits'. -/
def branchEditsUptoCard : Claim7 := { stood := { row := branchEditsUptoRow, standIns := [], harness := (true, "36802763c3253418668cfb00ef848d872ec22d9b5839e09a6c4e7d508fd51605"), looks := true }, kinds := [], alts := [], laidByText := true, laidKinds := [.sentinel, .sentinel, .sentinel, .sentinel, .sentinel, .sentinel, .sentinel, .sentinel, .sentinel, .sentinel, .sentinel, .sentinel, .sentinel], laidTests := true, laidLooks := .later }
def BranchEditsUptoCardSaid : Prop := Claim7.holds Tryd.pinned (.plain (OpenSpec.upto branchEditsSpec)) branchEditsUptoCard

/-- THE SECOND FORM's CARD OF 'copselaw8.BranchChecks'. -/
def branchChecksUptoCard : Claim7 := { stood := { row := branchChecksUptoRow, standIns := [], harness := (true, "36802763c3253418668cfb00ef848d872ec22d9b5839e09a6c4e7d508fd51605"), looks := true }, kinds := [], alts := [], laidByText := true, laidKinds := [.sentinel, .sentinel, .sentinel, .sentinel, .sentinel, .sentinel, .sentinel, .sentinel, .sentinel, .sentinel, .sentinel, .sentinel, .sentinel], laidTests := true, laidLooks := .later }
def BranchChecksUptoCardSaid : Prop := Claim7.holds Tryd.pinned (.plain (OpenSpec.upto branchChecksSpec)) branchChecksUptoCard

/-- THE SECOND FORM's CARD OF 'copselaw8.BranchEncodes'. -/
def branchEncodesUptoCard : Claim7 := { stood := { row := branchEncodesUptoRow, standIns := [], harness := (true, "36802763c3253418668cfb00ef848d872ec22d9b5839e09a6c4e7d508fd51605"), looks := true }, kinds := [], alts := [], laidByText := true, laidKinds := [.sentinel, .sentinel, .sentinel, .sentinel, .sentinel, .sentinel, .sentinel, .sentinel, .sentinel, .sentinel, .sentinel, .sentinel, .sentinel], laidTests := true, laidLooks := .later }
def BranchEncodesUptoCardSaid : Prop := Claim7.holds Tryd.pinned (.plain (OpenSpec.upto branchEncodesSpec)) branchEncodesUptoCard

/-- THE SECOND FORM's CARD OF 'copselaw8.BranchDecodes'. -/
def branchDecodesUptoCard : Claim7 := { stood := { row := branchDecodesUptoRow, standIns := [], harness := (true, "36802763c3253418668cfb00ef848d872ec22d9b5839e09a6c4e7d508fd51605"), looks := true }, kinds := [], alts := [], laidByText := true, laidKinds := [.sentinel, .sentinel, .sentinel, .sentinel, .sentinel, .sentinel, .sentinel, .sentinel, .sentinel, .sentinel, .sentinel, .sentinel, .sentinel], laidTests := true, laidLooks := .later }
def BranchDecodesUptoCardSaid : Prop := Claim7.holds Tryd.pinned (.plain (OpenSpec.upto branchDecodesSpec)) branchDecodesUptoCard

/-- THE SECOND FORM's CARD OF 'copselaw8.BranchBack'. -/
def branchBackUptoCard : Claim7 := { stood := { row := branchBackUptoRow, standIns := [], harness := (true, "36802763c3253418668cfb00ef848d872ec22d9b5839e09a6c4e7d508fd51605"), looks := true }, kinds := [], alts := [], laidByText := true, laidKinds := [.sentinel, .sentinel, .sentinel, .sentinel, .sentinel, .sentinel, .sentinel, .sentinel, .sentinel, .sentinel, .sentinel, .sentinel, .sentinel], laidTests := true, laidLooks := .later }
def BranchBackUptoCardSaid : Prop := Claim7.holds Tryd.pinned (.plain (OpenSpec.upto branchBackSpec)) branchBackUptoCard

/-- THE SECOND FORM's CARD OF 'copselaw8.BranchOnly'. -/
def branchOnlyUptoCard : Claim7 := { stood := { row := branchOnlyUptoRow, standIns := [], harness := (true, "36802763c3253418668cfb00ef848d872ec22d9b5839e09a6c4e7d508fd51605"), looks := true }, kinds := [], alts := [], laidByText := true, laidKinds := [.sentinel, .sentinel, .sentinel, .sentinel, .sentinel, .sentinel, .sentinel, .sentinel, .sentinel, .sentinel, .sentinel, .sentinel, .sentinel], laidTests := true, laidLooks := .later }
def BranchOnlyUptoCardSaid : Prop := Claim7.holds Tryd.pinned (.plain (OpenSpec.upto branchOnlySpec)) branchOnlyUptoCard

/-- THE SECOND FORM's CARD OF 'copselaw8.BranchHalves'. -/
def branchHalvesUptoCard : Claim7 := { stood := { row := branchHalvesUptoRow, standIns := [], harness := (true, "36802763c3253418668cfb00ef848d872ec22d9b5839e09a6c4e7d508fd51605"), looks := true }, kinds := [], alts := [], laidByText := true, laidKinds := [.sentinel, .sentinel, .sentinel, .sentinel, .sentinel, .sentinel, .sentinel, .sentinel, .sentinel, .sentinel, .sentinel, .sentinel, .sentinel], laidTests := true, laidLooks := .later }
def BranchHalvesUptoCardSaid : Prop := Claim7.holds Tryd.pinned (.plain (OpenSpec.upto branchHalvesSpec)) branchHalvesUptoCard

/-- THE SECOND FORM's CARD OF 'copselaw8.BranchMemory'. -/
def branchMemoryUptoCard : Claim7 := { stood := { row := branchMemoryUptoRow, standIns := [], harness := (true, "36802763c3253418668cfb00ef848d872ec22d9b5839e09a6c4e7d508fd51605"), looks := true }, kinds := [], alts := [], laidByText := true, laidKinds := [.sentinel, .sentinel, .sentinel, .sentinel, .sentinel, .sentinel, .sentinel, .sentinel, .sentinel, .sentinel, .sentinel, .sentinel, .sentinel], laidTests := true, laidLooks := .later }
def BranchMemoryUptoCardSaid : Prop := Claim7.holds Tryd.pinned (.plain (OpenSpec.upto branchMemorySpec)) branchMemoryUptoCard

/-- THE SECOND FORM's CARD OF 'copselaw15.ScriptWords'. -/
def scriptWordsUptoCard : Claim7 := { stood := { row := scriptWordsUptoRow, standIns := [], harness := (true, "36802763c3253418668cfb00ef848d872ec22d9b5839e09a6c4e7d508fd51605"), looks := true }, kinds := [], alts := [], laidByText := true, laidKinds := [.data, .sentinel, .sentinel, .sentinel, .sentinel, .sentinel, .sentinel, .sentinel, .sentinel, .sentinel, .sentinel, .sentinel, .sentinel, .sentinel, .pinned], laidTests := true, laidLooks := .later }
def ScriptWordsUptoCardSaid : Prop := Claim7.holds Tryd.pinned (.plain (OpenSpec.upto scriptWordsSpec)) scriptWordsUptoCard

/-- THE SECOND FORM's CARD OF 'copselaw15.ScriptQuote'. -/
def scriptQuoteUptoCard : Claim7 := { stood := { row := scriptQuoteUptoRow, standIns := [], harness := (true, "36802763c3253418668cfb00ef848d872ec22d9b5839e09a6c4e7d508fd51605"), looks := true }, kinds := [], alts := [], laidByText := true, laidKinds := [.data, .sentinel, .pinned], laidTests := true, laidLooks := .later }
def ScriptQuoteUptoCardSaid : Prop := Claim7.holds Tryd.pinned (.plain (OpenSpec.upto scriptQuoteSpec)) scriptQuoteUptoCard
end Rows
end Go.Proofs.YtocggojbafediaaDoor
