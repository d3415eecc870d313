/-
  DERIVED. GIVEN WITH THE SEED: THE CARDS: each row of YtgfakdobajgnfaaGreatDoorRows.lean that lists a variable, with what it lists TIED to the program's text (the seventh form; the later family's looks); each row that meets fmt, with fmt's text TOLD by the authors' own Lean function (tested against real Go, not proved from fmt's source: count such statements apart). THE CARD IS WHAT COUNTS. Prove the row's statement (the work); the ties are given (YtgfakdobajgnfaaGreatDoorTie.lean); close each card by the builder's one call (the guide's Derived/Test/ToyasCard.lean, 'card_holds'). Laid BY PROGRAM, IN A SANDBOX (cutbox-door.mjs). By AI agents, Wed Nov 11 2026. No macro, syntax, notation, axiom, sorry.
-/
import Derived.Test.YtgfakdobajgnfaaGreatDoorRows
import GoSem.ClaimSeven
namespace Go.Proofs.YtgfakdobajgnfaaGreatDoor
namespace Rows

/-- THE TIED CARD OF 'witanlaw03.VtextText'. -/
def vtextTextCard : Claim7 := { stood := { row := vtextTextRow, standIns := [], harness := (true, "f3a6cba1a19a5ebdb5ef21fbd79b5adb070614edb3e33fa81c2478991725262e"), looks := true }, kinds := [], alts := [], laidByText := true, laidKinds := [.data, .data, .data, .data, .sentinel, .sentinel, .pinned], laidTests := true, laidLooks := .later }
def VtextTextCardSaid : Prop := Claim7.holds Tryz.pinned (.plain (OpenSpec.ofChange vtextTextSpec)) vtextTextCard

/-- THE TIED CARD OF 'witanlaw07.ExprReads'. -/
def exprReadsCard : Claim7 := { stood := { row := exprReadsRow, standIns := [], harness := (true, "f3a6cba1a19a5ebdb5ef21fbd79b5adb070614edb3e33fa81c2478991725262e"), looks := true }, kinds := [], alts := [], laidByText := true, laidKinds := [.data, .data, .data, .data, .sentinel, .sentinel, .pinned], laidTests := true, laidLooks := .later }
def ExprReadsCardSaid : Prop := Claim7.holds Tryz.pinned (.plain (OpenSpec.ofChange exprReadsSpec)) exprReadsCard

/-- THE TIED CARD OF 'witanlaw07.ExprJoins'. -/
def exprJoinsCard : Claim7 := { stood := { row := exprJoinsRow, standIns := [], harness := (true, "f3a6cba1a19a5ebdb5ef21fbd79b5adb070614edb3e33fa81c2478991725262e"), looks := true }, kinds := [], alts := [], laidByText := true, laidKinds := [.data, .data, .data, .data, .sentinel, .sentinel, .pinned], laidTests := true, laidLooks := .later }
def ExprJoinsCardSaid : Prop := Claim7.holds Tryz.pinned (.plain (OpenSpec.ofChange exprJoinsSpec)) exprJoinsCard

/-- THE TIED CARD OF 'witanlaw08.EprintBack'. -/
def eprintBackCard : Claim7 := { stood := { row := eprintBackRow, standIns := [], harness := (true, "f3a6cba1a19a5ebdb5ef21fbd79b5adb070614edb3e33fa81c2478991725262e"), looks := true }, kinds := [], alts := [], laidByText := true, laidKinds := [.data, .data, .data, .data, .sentinel, .sentinel, .pinned], laidTests := true, laidLooks := .later }
def EprintBackCardSaid : Prop := Claim7.holds Tryz.pinned (.plain (OpenSpec.ofChange eprintBackSpec)) eprintBackCard

/-- THE TIED CARD OF 'witanlaw08.EprintSigns'. -/
def eprintSignsCard : Claim7 := { stood := { row := eprintSignsRow, standIns := [], harness := (true, "f3a6cba1a19a5ebdb5ef21fbd79b5adb070614edb3e33fa81c2478991725262e"), looks := true }, kinds := [], alts := [], laidByText := true, laidKinds := [.data, .data, .data, .data, .sentinel, .sentinel, .pinned], laidTests := true, laidLooks := .later }
def EprintSignsCardSaid : Prop := Claim7.holds Tryz.pinned (.plain (OpenSpec.ofChange eprintSignsSpec)) eprintSignsCard

/-- THE TIED CARD OF 'witanlaw08.EprintTexts'. -/
def eprintTextsCard : Claim7 := { stood := { row := eprintTextsRow, standIns := [], harness := (true, "f3a6cba1a19a5ebdb5ef21fbd79b5adb070614edb3e33fa81c2478991725262e"), looks := true }, kinds := [], alts := [], laidByText := true, laidKinds := [.data, .data, .data, .data, .sentinel, .sentinel, .pinned], laidTests := true, laidLooks := .later }
def EprintTextsCardSaid : Prop := Claim7.holds Tryz.pinned (.plain (OpenSpec.ofChange eprintTextsSpec)) eprintTextsCard

/-- THE TIED CARD OF 'witanlaw08.EprintParts'. -/
def eprintPartsCard : Claim7 := { stood := { row := eprintPartsRow, standIns := [], harness := (true, "f3a6cba1a19a5ebdb5ef21fbd79b5adb070614edb3e33fa81c2478991725262e"), looks := true }, kinds := [], alts := [], laidByText := true, laidKinds := [.data, .data, .data, .data, .sentinel, .sentinel, .pinned], laidTests := true, laidLooks := .later }
def EprintPartsCardSaid : Prop := Claim7.holds Tryz.pinned (.plain (OpenSpec.ofChange eprintPartsSpec)) eprintPartsCard

/-- THE TIED CARD OF 'witanlaw09.EtypePairs'. -/
def etypePairsCard : Claim7 := { stood := { row := etypePairsRow, standIns := [], harness := (true, "f3a6cba1a19a5ebdb5ef21fbd79b5adb070614edb3e33fa81c2478991725262e"), looks := true }, kinds := [], alts := [], laidByText := true, laidKinds := [.data, .data, .data, .data, .sentinel, .sentinel, .pinned], laidTests := true, laidLooks := .later }
def EtypePairsCardSaid : Prop := Claim7.holds Tryz.pinned (.plain (OpenSpec.ofChange etypePairsSpec)) etypePairsCard

/-- THE TIED CARD OF 'witanlaw09.EtypeSelf'. -/
def etypeSelfCard : Claim7 := { stood := { row := etypeSelfRow, standIns := [], harness := (true, "f3a6cba1a19a5ebdb5ef21fbd79b5adb070614edb3e33fa81c2478991725262e"), looks := true }, kinds := [], alts := [], laidByText := true, laidKinds := [.data, .data, .data, .data, .sentinel, .sentinel, .pinned], laidTests := true, laidLooks := .later }
def EtypeSelfCardSaid : Prop := Claim7.holds Tryz.pinned (.plain (OpenSpec.ofChange etypeSelfSpec)) etypeSelfCard

/-- THE TIED CARD OF 'witanlaw09.EtypeKinds'. -/
def etypeKindsCard : Claim7 := { stood := { row := etypeKindsRow, standIns := [], harness := (true, "f3a6cba1a19a5ebdb5ef21fbd79b5adb070614edb3e33fa81c2478991725262e"), looks := true }, kinds := [], alts := [], laidByText := true, laidKinds := [.data, .data, .data, .data, .sentinel, .sentinel, .pinned], laidTests := true, laidLooks := .later }
def EtypeKindsCardSaid : Prop := Claim7.holds Tryz.pinned (.plain (OpenSpec.ofChange etypeKindsSpec)) etypeKindsCard

/-- THE TIED CARD OF 'witanlaw09.EtypeNames'. -/
def etypeNamesCard : Claim7 := { stood := { row := etypeNamesRow, standIns := [], harness := (true, "f3a6cba1a19a5ebdb5ef21fbd79b5adb070614edb3e33fa81c2478991725262e"), looks := true }, kinds := [], alts := [], laidByText := true, laidKinds := [.data, .data, .data, .data, .sentinel, .sentinel, .pinned], laidTests := true, laidLooks := .later }
def EtypeNamesCardSaid : Prop := Claim7.holds Tryz.pinned (.plain (OpenSpec.ofChange etypeNamesSpec)) etypeNamesCard

/-- THE SECOND FORM's CARD OF 'witanlaw03.VtextText'. -/
def vtextTextUptoCard : Claim7 := { stood := { row := vtextTextUptoRow, standIns := [], harness := (true, "f3a6cba1a19a5ebdb5ef21fbd79b5adb070614edb3e33fa81c2478991725262e"), looks := true }, kinds := [], alts := [], laidByText := true, laidKinds := [.data, .data, .data, .data, .sentinel, .sentinel, .pinned], laidTests := true, laidLooks := .later }
def VtextTextUptoCardSaid : Prop := Claim7.holds Tryz.pinned (.plain (OpenSpec.upto vtextTextSpec)) vtextTextUptoCard

/-- THE SECOND FORM's CARD OF 'witanlaw07.ExprReads'. -/
def exprReadsUptoCard : Claim7 := { stood := { row := exprReadsUptoRow, standIns := [], harness := (true, "f3a6cba1a19a5ebdb5ef21fbd79b5adb070614edb3e33fa81c2478991725262e"), looks := true }, kinds := [], alts := [], laidByText := true, laidKinds := [.data, .data, .data, .data, .sentinel, .sentinel, .pinned], laidTests := true, laidLooks := .later }
def ExprReadsUptoCardSaid : Prop := Claim7.holds Tryz.pinned (.plain (OpenSpec.upto exprReadsSpec)) exprReadsUptoCard

/-- THE SECOND FORM's CARD OF 'witanlaw07.ExprJoins'. -/
def exprJoinsUptoCard : Claim7 := { stood := { row := exprJoinsUptoRow, standIns := [], harness := (true, "f3a6cba1a19a5ebdb5ef21fbd79b5adb070614edb3e33fa81c2478991725262e"), looks := true }, kinds := [], alts := [], laidByText := true, laidKinds := [.data, .data, .data, .data, .sentinel, .sentinel, .pinned], laidTests := true, laidLooks := .later }
def ExprJoinsUptoCardSaid : Prop := Claim7.holds Tryz.pinned (.plain (OpenSpec.upto exprJoinsSpec)) exprJoinsUptoCard

/-- THE SECOND FORM's CARD OF 'witanlaw08.EprintBack'. -/
def eprintBackUptoCard : Claim7 := { stood := { row := eprintBackUptoRow, standIns := [], harness := (true, "f3a6cba1a19a5ebdb5ef21fbd79b5adb070614edb3e33fa81c2478991725262e"), looks := true }, kinds := [], alts := [], laidByText := true, laidKinds := [.data, .data, .data, .data, .sentinel, .sentinel, .pinned], laidTests := true, laidLooks := .later }
def EprintBackUptoCardSaid : Prop := Claim7.holds Tryz.pinned (.plain (OpenSpec.upto eprintBackSpec)) eprintBackUptoCard

/-- THE SECOND FORM's CARD OF 'witanlaw08.EprintSigns'. -/
def eprintSignsUptoCard : Claim7 := { stood := { row := eprintSignsUptoRow, standIns := [], harness := (true, "f3a6cba1a19a5ebdb5ef21fbd79b5adb070614edb3e33fa81c2478991725262e"), looks := true }, kinds := [], alts := [], laidByText := true, laidKinds := [.data, .data, .data, .data, .sentinel, .sentinel, .pinned], laidTests := true, laidLooks := .later }
def EprintSignsUptoCardSaid : Prop := Claim7.holds Tryz.pinned (.plain (OpenSpec.upto eprintSignsSpec)) eprintSignsUptoCard

/-- THE SECOND FORM's CARD OF 'witanlaw08.EprintTexts'. -/
def eprintTextsUptoCard : Claim7 := { stood := { row := eprintTextsUptoRow, standIns := [], harness := (true, "f3a6cba1a19a5ebdb5ef21fbd79b5adb070614edb3e33fa81c2478991725262e"), looks := true }, kinds := [], alts := [], laidByText := true, laidKinds := [.data, .data, .data, .data, .sentinel, .sentinel, .pinned], laidTests := true, laidLooks := .later }
def EprintTextsUptoCardSaid : Prop := Claim7.holds Tryz.pinned (.plain (OpenSpec.upto eprintTextsSpec)) eprintTextsUptoCard

/-- THE SECOND FORM's CARD OF 'witanlaw08.EprintParts'. -/
def eprintPartsUptoCard : Claim7 := { stood := { row := eprintPartsUptoRow, standIns := [], harness := (true, "f3a6cba1a19a5ebdb5ef21fbd79b5adb070614edb3e33fa81c2478991725262e"), looks := true }, kinds := [], alts := [], laidByText := true, laidKinds := [.data, .data, .data, .data, .sentinel, .sentinel, .pinned], laidTests := true, laidLooks := .later }
def EprintPartsUptoCardSaid : Prop := Claim7.holds Tryz.pinned (.plain (OpenSpec.upto eprintPartsSpec)) eprintPartsUptoCard

/-- THE SECOND FORM's CARD OF 'witanlaw09.EtypePairs'. -/
def etypePairsUptoCard : Claim7 := { stood := { row := etypePairsUptoRow, standIns := [], harness := (true, "f3a6cba1a19a5ebdb5ef21fbd79b5adb070614edb3e33fa81c2478991725262e"), looks := true }, kinds := [], alts := [], laidByText := true, laidKinds := [.data, .data, .data, .data, .sentinel, .sentinel, .pinned], laidTests := true, laidLooks := .later }
def EtypePairsUptoCardSaid : Prop := Claim7.holds Tryz.pinned (.plain (OpenSpec.upto etypePairsSpec)) etypePairsUptoCard

/-- THE SECOND FORM's CARD OF 'witanlaw09.EtypeSelf'. -/
def etypeSelfUptoCard : Claim7 := { stood := { row := etypeSelfUptoRow, standIns := [], harness := (true, "f3a6cba1a19a5ebdb5ef21fbd79b5adb070614edb3e33fa81c2478991725262e"), looks := true }, kinds := [], alts := [], laidByText := true, laidKinds := [.data, .data, .data, .data, .sentinel, .sentinel, .pinned], laidTests := true, laidLooks := .later }
def EtypeSelfUptoCardSaid : Prop := Claim7.holds Tryz.pinned (.plain (OpenSpec.upto etypeSelfSpec)) etypeSelfUptoCard

/-- THE SECOND FORM's CARD OF 'witanlaw09.EtypeKinds'. -/
def etypeKindsUptoCard : Claim7 := { stood := { row := etypeKindsUptoRow, standIns := [], harness := (true, "f3a6cba1a19a5ebdb5ef21fbd79b5adb070614edb3e33fa81c2478991725262e"), looks := true }, kinds := [], alts := [], laidByText := true, laidKinds := [.data, .data, .data, .data, .sentinel, .sentinel, .pinned], laidTests := true, laidLooks := .later }
def EtypeKindsUptoCardSaid : Prop := Claim7.holds Tryz.pinned (.plain (OpenSpec.upto etypeKindsSpec)) etypeKindsUptoCard

/-- THE SECOND FORM's CARD OF 'witanlaw09.EtypeNames'. -/
def etypeNamesUptoCard : Claim7 := { stood := { row := etypeNamesUptoRow, standIns := [], harness := (true, "f3a6cba1a19a5ebdb5ef21fbd79b5adb070614edb3e33fa81c2478991725262e"), looks := true }, kinds := [], alts := [], laidByText := true, laidKinds := [.data, .data, .data, .data, .sentinel, .sentinel, .pinned], laidTests := true, laidLooks := .later }
def EtypeNamesUptoCardSaid : Prop := Claim7.holds Tryz.pinned (.plain (OpenSpec.upto etypeNamesSpec)) etypeNamesUptoCard
end Rows
end Go.Proofs.YtgfakdobajgnfaaGreatDoor
