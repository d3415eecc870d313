/-
  DERIVED. GIVEN WITH THE SEED: THE CARDS: each row of YtkjndabbkfbkaaaGreatDoorRows.lean that lists a variable, with what it lists TIED to the program's text (the seventh form; the later family's looks); each row that meets fmt, with fmt's text TOLD by the authors' own Lean function (tested against real Go, not proved from fmt's source: count such statements apart). THE CARD IS WHAT COUNTS. Prove the row's statement (the work); the ties are given (YtkjndabbkfbkaaaGreatDoorTie.lean); close each card by the builder's one call (the guide's Derived/Test/ToyasCard.lean, 'card_holds'). Laid BY PROGRAM, IN A SANDBOX (cutbox-door.mjs). By AI agents, Wed Nov 11 2026. No macro, syntax, notation, axiom, sorry.
-/
import Derived.Test.YtkjndabbkfbkaaaGreatDoorRows
import GoSem.ClaimSeven
namespace Go.Proofs.YtkjndabbkfbkaaaGreatDoor
namespace Rows

/-- THE TIED CARD OF 'witanlaw07.ExprShapes'. -/
def exprShapesCard : Claim7 := { stood := { row := exprShapesRow, standIns := [], harness := (true, "50076472716c55fe304807396c74d163110e80fbc1189b81fe168a2c190ae37b"), looks := true }, kinds := [], alts := [], laidByText := true, laidKinds := [.data, .data, .data, .data, .sentinel, .sentinel, .pinned], laidTests := true, laidLooks := .later }
def ExprShapesCardSaid : Prop := Claim7.holds Tryz.pinned (.plain (OpenSpec.ofChange exprShapesSpec)) exprShapesCard

/-- THE TIED CARD OF 'witanlaw07.ExprReads'. -/
def exprReadsCard : Claim7 := { stood := { row := exprReadsRow, standIns := [], harness := (true, "50076472716c55fe304807396c74d163110e80fbc1189b81fe168a2c190ae37b"), looks := true }, kinds := [], alts := [], laidByText := true, laidKinds := [.data, .data, .data, .data, .sentinel, .sentinel, .pinned], laidTests := true, laidLooks := .later }
def ExprReadsCardSaid : Prop := Claim7.holds Tryz.pinned (.plain (OpenSpec.ofChange exprReadsSpec)) exprReadsCard

/-- THE TIED CARD OF 'witanlaw07.ExprBrackets'. -/
def exprBracketsCard : Claim7 := { stood := { row := exprBracketsRow, standIns := [], harness := (true, "50076472716c55fe304807396c74d163110e80fbc1189b81fe168a2c190ae37b"), looks := true }, kinds := [], alts := [], laidByText := true, laidKinds := [.data, .data, .data, .data, .sentinel, .sentinel, .pinned], laidTests := true, laidLooks := .later }
def ExprBracketsCardSaid : Prop := Claim7.holds Tryz.pinned (.plain (OpenSpec.ofChange exprBracketsSpec)) exprBracketsCard

/-- THE TIED CARD OF 'witanlaw07.ExprJoins'. -/
def exprJoinsCard : Claim7 := { stood := { row := exprJoinsRow, standIns := [], harness := (true, "50076472716c55fe304807396c74d163110e80fbc1189b81fe168a2c190ae37b"), looks := true }, kinds := [], alts := [], laidByText := true, laidKinds := [.data, .data, .data, .data, .sentinel, .sentinel, .pinned], laidTests := true, laidLooks := .later }
def ExprJoinsCardSaid : Prop := Claim7.holds Tryz.pinned (.plain (OpenSpec.ofChange exprJoinsSpec)) exprJoinsCard

/-- THE TIED CARD OF 'witanlaw08.EprintBack'. -/
def eprintBackCard : Claim7 := { stood := { row := eprintBackRow, standIns := [], harness := (true, "50076472716c55fe304807396c74d163110e80fbc1189b81fe168a2c190ae37b"), looks := true }, kinds := [], alts := [], laidByText := true, laidKinds := [.data, .data, .data, .data, .sentinel, .sentinel, .pinned], laidTests := true, laidLooks := .later }
def EprintBackCardSaid : Prop := Claim7.holds Tryz.pinned (.plain (OpenSpec.ofChange eprintBackSpec)) eprintBackCard

/-- THE TIED CARD OF 'witanlaw08.EprintSigns'. -/
def eprintSignsCard : Claim7 := { stood := { row := eprintSignsRow, standIns := [], harness := (true, "50076472716c55fe304807396c74d163110e80fbc1189b81fe168a2c190ae37b"), looks := true }, kinds := [], alts := [], laidByText := true, laidKinds := [.data, .data, .data, .data, .sentinel, .sentinel, .pinned], laidTests := true, laidLooks := .later }
def EprintSignsCardSaid : Prop := Claim7.holds Tryz.pinned (.plain (OpenSpec.ofChange eprintSignsSpec)) eprintSignsCard

/-- THE TIED CARD OF 'witanlaw08.EprintTexts'. -/
def eprintTextsCard : Claim7 := { stood := { row := eprintTextsRow, standIns := [], harness := (true, "50076472716c55fe304807396c74d163110e80fbc1189b81fe168a2c190ae37b"), looks := true }, kinds := [], alts := [], laidByText := true, laidKinds := [.data, .data, .data, .data, .sentinel, .sentinel, .pinned], laidTests := true, laidLooks := .later }
def EprintTextsCardSaid : Prop := Claim7.holds Tryz.pinned (.plain (OpenSpec.ofChange eprintTextsSpec)) eprintTextsCard

/-- THE TIED CARD OF 'witanlaw08.EprintParts'. -/
def eprintPartsCard : Claim7 := { stood := { row := eprintPartsRow, standIns := [], harness := (true, "50076472716c55fe304807396c74d163110e80fbc1189b81fe168a2c190ae37b"), looks := true }, kinds := [], alts := [], laidByText := true, laidKinds := [.data, .data, .data, .data, .sentinel, .sentinel, .pinned], laidTests := true, laidLooks := .later }
def EprintPartsCardSaid : Prop := Claim7.holds Tryz.pinned (.plain (OpenSpec.ofChange eprintPartsSpec)) eprintPartsCard

/-- THE SECOND FORM's CARD OF 'witanlaw07.ExprShapes'. -/
def exprShapesUptoCard : Claim7 := { stood := { row := exprShapesUptoRow, standIns := [], harness := (true, "50076472716c55fe304807396c74d163110e80fbc1189b81fe168a2c190ae37b"), looks := true }, kinds := [], alts := [], laidByText := true, laidKinds := [.data, .data, .data, .data, .sentinel, .sentinel, .pinned], laidTests := true, laidLooks := .later }
def ExprShapesUptoCardSaid : Prop := Claim7.holds Tryz.pinned (.plain (OpenSpec.upto exprShapesSpec)) exprShapesUptoCard

/-- THE SECOND FORM's CARD OF 'witanlaw07.ExprReads'. -/
def exprReadsUptoCard : Claim7 := { stood := { row := exprReadsUptoRow, standIns := [], harness := (true, "50076472716c55fe304807396c74d163110e80fbc1189b81fe168a2c190ae37b"), looks := true }, kinds := [], alts := [], laidByText := true, laidKinds := [.data, .data, .data, .data, .sentinel, .sentinel, .pinned], laidTests := true, laidLooks := .later }
def ExprReadsUptoCardSaid : Prop := Claim7.holds Tryz.pinned (.plain (OpenSpec.upto exprReadsSpec)) exprReadsUptoCard

/-- THE SECOND FORM's CARD OF 'witanlaw07.ExprBrackets'. -/
def exprBracketsUptoCard : Claim7 := { stood := { row := exprBracketsUptoRow, standIns := [], harness := (true, "50076472716c55fe304807396c74d163110e80fbc1189b81fe168a2c190ae37b"), looks := true }, kinds := [], alts := [], laidByText := true, laidKinds := [.data, .data, .data, .data, .sentinel, .sentinel, .pinned], laidTests := true, laidLooks := .later }
def ExprBracketsUptoCardSaid : Prop := Claim7.holds Tryz.pinned (.plain (OpenSpec.upto exprBracketsSpec)) exprBracketsUptoCard

/-- THE SECOND FORM's CARD OF 'witanlaw07.ExprJoins'. -/
def exprJoinsUptoCard : Claim7 := { stood := { row := exprJoinsUptoRow, standIns := [], harness := (true, "50076472716c55fe304807396c74d163110e80fbc1189b81fe168a2c190ae37b"), looks := true }, kinds := [], alts := [], laidByText := true, laidKinds := [.data, .data, .data, .data, .sentinel, .sentinel, .pinned], laidTests := true, laidLooks := .later }
def ExprJoinsUptoCardSaid : Prop := Claim7.holds Tryz.pinned (.plain (OpenSpec.upto exprJoinsSpec)) exprJoinsUptoCard

/-- THE SECOND FORM's CARD OF 'witanlaw08.EprintBack'. -/
def eprintBackUptoCard : Claim7 := { stood := { row := eprintBackUptoRow, standIns := [], harness := (true, "50076472716c55fe304807396c74d163110e80fbc1189b81fe168a2c190ae37b"), looks := true }, kinds := [], alts := [], laidByText := true, laidKinds := [.data, .data, .data, .data, .sentinel, .sentinel, .pinned], laidTests := true, laidLooks := .later }
def EprintBackUptoCardSaid : Prop := Claim7.holds Tryz.pinned (.plain (OpenSpec.upto eprintBackSpec)) eprintBackUptoCard

/-- THE SECOND FORM's CARD OF 'witanlaw08.EprintSigns'. -/
def eprintSignsUptoCard : Claim7 := { stood := { row := eprintSignsUptoRow, standIns := [], harness := (true, "50076472716c55fe304807396c74d163110e80fbc1189b81fe168a2c190ae37b"), looks := true }, kinds := [], alts := [], laidByText := true, laidKinds := [.data, .data, .data, .data, .sentinel, .sentinel, .pinned], laidTests := true, laidLooks := .later }
def EprintSignsUptoCardSaid : Prop := Claim7.holds Tryz.pinned (.plain (OpenSpec.upto eprintSignsSpec)) eprintSignsUptoCard

/-- THE SECOND FORM's CARD OF 'witanlaw08.EprintTexts'. -/
def eprintTextsUptoCard : Claim7 := { stood := { row := eprintTextsUptoRow, standIns := [], harness := (true, "50076472716c55fe304807396c74d163110e80fbc1189b81fe168a2c190ae37b"), looks := true }, kinds := [], alts := [], laidByText := true, laidKinds := [.data, .data, .data, .data, .sentinel, .sentinel, .pinned], laidTests := true, laidLooks := .later }
def EprintTextsUptoCardSaid : Prop := Claim7.holds Tryz.pinned (.plain (OpenSpec.upto eprintTextsSpec)) eprintTextsUptoCard

/-- THE SECOND FORM's CARD OF 'witanlaw08.EprintParts'. -/
def eprintPartsUptoCard : Claim7 := { stood := { row := eprintPartsUptoRow, standIns := [], harness := (true, "50076472716c55fe304807396c74d163110e80fbc1189b81fe168a2c190ae37b"), looks := true }, kinds := [], alts := [], laidByText := true, laidKinds := [.data, .data, .data, .data, .sentinel, .sentinel, .pinned], laidTests := true, laidLooks := .later }
def EprintPartsUptoCardSaid : Prop := Claim7.holds Tryz.pinned (.plain (OpenSpec.upto eprintPartsSpec)) eprintPartsUptoCard
end Rows
end Go.Proofs.YtkjndabbkfbkaaaGreatDoor
