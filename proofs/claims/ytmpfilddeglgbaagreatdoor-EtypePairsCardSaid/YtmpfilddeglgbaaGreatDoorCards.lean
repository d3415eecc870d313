/-
  DERIVED. GIVEN WITH THE SEED: THE CARDS: each row of YtmpfilddeglgbaaGreatDoorRows.lean that lists a variable, with what it lists TIED to the program's text (the seventh form; the later family's looks); each row that meets fmt, with fmt's text TOLD by the authors' own Lean function (tested against real Go, not proved from fmt's source: count such statements apart). THE CARD IS WHAT COUNTS. Prove the row's statement (the work); the ties are given (YtmpfilddeglgbaaGreatDoorTie.lean); close each card by the builder's one call (the guide's Derived/Test/ToyasCard.lean, 'card_holds'). Laid BY PROGRAM, IN A SANDBOX (cutbox-door.mjs). By AI agents, Wed Nov 11 2026. No macro, syntax, notation, axiom, sorry.
-/
import Derived.Test.YtmpfilddeglgbaaGreatDoorRows
import GoSem.ClaimSeven
namespace Go.Proofs.YtmpfilddeglgbaaGreatDoor
namespace Rows

/-- THE TIED CARD OF 'witanlaw07.ExprReads'. -/
def exprReadsCard : Claim7 := { stood := { row := exprReadsRow, standIns := [], harness := (true, "b84fd7af403ba3de71132e0dc0c69a55f88554b269b2335bff891f8597a7dd61"), looks := true }, kinds := [], alts := [], laidByText := true, laidKinds := [.data, .data, .data, .data, .sentinel, .sentinel, .pinned], laidTests := true, laidLooks := .later }
def ExprReadsCardSaid : Prop := Claim7.holds Tryz.pinned (.plain (OpenSpec.ofChange exprReadsSpec)) exprReadsCard

/-- THE TIED CARD OF 'witanlaw08.EprintTexts'. -/
def eprintTextsCard : Claim7 := { stood := { row := eprintTextsRow, standIns := [], harness := (true, "b84fd7af403ba3de71132e0dc0c69a55f88554b269b2335bff891f8597a7dd61"), looks := true }, kinds := [], alts := [], laidByText := true, laidKinds := [.data, .data, .data, .data, .sentinel, .sentinel, .pinned], laidTests := true, laidLooks := .later }
def EprintTextsCardSaid : Prop := Claim7.holds Tryz.pinned (.plain (OpenSpec.ofChange eprintTextsSpec)) eprintTextsCard

/-- THE TIED CARD OF 'witanlaw09.EtypePairs'. -/
def etypePairsCard : Claim7 := { stood := { row := etypePairsRow, standIns := [], harness := (true, "b84fd7af403ba3de71132e0dc0c69a55f88554b269b2335bff891f8597a7dd61"), looks := true }, kinds := [], alts := [], laidByText := true, laidKinds := [.data, .data, .data, .data, .sentinel, .sentinel, .pinned], laidTests := true, laidLooks := .later }
def EtypePairsCardSaid : Prop := Claim7.holds Tryz.pinned (.plain (OpenSpec.ofChange etypePairsSpec)) etypePairsCard

/-- THE TIED CARD OF 'witanlaw12.RulePlaces'. -/
def rulePlacesCard : Claim7 := { stood := { row := rulePlacesRow, standIns := [], harness := (true, "b84fd7af403ba3de71132e0dc0c69a55f88554b269b2335bff891f8597a7dd61"), looks := true }, kinds := [], alts := [], laidByText := true, laidKinds := [.data, .data, .data, .data, .sentinel, .sentinel, .listed, .data, .pinned], laidTests := true, laidLooks := .later }
def RulePlacesCardSaid : Prop := Claim7.holds Tryz.pinned (.plain (OpenSpec.ofChange rulePlacesSpec)) rulePlacesCard

/-- THE TIED CARD OF 'witanlaw12.RuleBlanks'. -/
def ruleBlanksCard : Claim7 := { stood := { row := ruleBlanksRow, standIns := [], harness := (true, "b84fd7af403ba3de71132e0dc0c69a55f88554b269b2335bff891f8597a7dd61"), looks := true }, kinds := [], alts := [], laidByText := true, laidKinds := [.data, .data, .data, .data, .sentinel, .sentinel, .listed, .data, .pinned], laidTests := true, laidLooks := .later }
def RuleBlanksCardSaid : Prop := Claim7.holds Tryz.pinned (.plain (OpenSpec.ofChange ruleBlanksSpec)) ruleBlanksCard

/-- THE SECOND FORM's CARD OF 'witanlaw07.ExprReads'. -/
def exprReadsUptoCard : Claim7 := { stood := { row := exprReadsUptoRow, standIns := [], harness := (true, "b84fd7af403ba3de71132e0dc0c69a55f88554b269b2335bff891f8597a7dd61"), looks := true }, kinds := [], alts := [], laidByText := true, laidKinds := [.data, .data, .data, .data, .sentinel, .sentinel, .pinned], laidTests := true, laidLooks := .later }
def ExprReadsUptoCardSaid : Prop := Claim7.holds Tryz.pinned (.plain (OpenSpec.upto exprReadsSpec)) exprReadsUptoCard

/-- THE SECOND FORM's CARD OF 'witanlaw08.EprintTexts'. -/
def eprintTextsUptoCard : Claim7 := { stood := { row := eprintTextsUptoRow, standIns := [], harness := (true, "b84fd7af403ba3de71132e0dc0c69a55f88554b269b2335bff891f8597a7dd61"), looks := true }, kinds := [], alts := [], laidByText := true, laidKinds := [.data, .data, .data, .data, .sentinel, .sentinel, .pinned], laidTests := true, laidLooks := .later }
def EprintTextsUptoCardSaid : Prop := Claim7.holds Tryz.pinned (.plain (OpenSpec.upto eprintTextsSpec)) eprintTextsUptoCard

/-- THE SECOND FORM's CARD OF 'witanlaw09.EtypePairs'. -/
def etypePairsUptoCard : Claim7 := { stood := { row := etypePairsUptoRow, standIns := [], harness := (true, "b84fd7af403ba3de71132e0dc0c69a55f88554b269b2335bff891f8597a7dd61"), looks := true }, kinds := [], alts := [], laidByText := true, laidKinds := [.data, .data, .data, .data, .sentinel, .sentinel, .pinned], laidTests := true, laidLooks := .later }
def EtypePairsUptoCardSaid : Prop := Claim7.holds Tryz.pinned (.plain (OpenSpec.upto etypePairsSpec)) etypePairsUptoCard

/-- THE SECOND FORM's CARD OF 'witanlaw12.RulePlaces'. -/
def rulePlacesUptoCard : Claim7 := { stood := { row := rulePlacesUptoRow, standIns := [], harness := (true, "b84fd7af403ba3de71132e0dc0c69a55f88554b269b2335bff891f8597a7dd61"), looks := true }, kinds := [], alts := [], laidByText := true, laidKinds := [.data, .data, .data, .data, .sentinel, .sentinel, .listed, .data, .pinned], laidTests := true, laidLooks := .later }
def RulePlacesUptoCardSaid : Prop := Claim7.holds Tryz.pinned (.plain (OpenSpec.upto rulePlacesSpec)) rulePlacesUptoCard

/-- THE SECOND FORM's CARD OF 'witanlaw12.RuleBlanks'. -/
def ruleBlanksUptoCard : Claim7 := { stood := { row := ruleBlanksUptoRow, standIns := [], harness := (true, "b84fd7af403ba3de71132e0dc0c69a55f88554b269b2335bff891f8597a7dd61"), looks := true }, kinds := [], alts := [], laidByText := true, laidKinds := [.data, .data, .data, .data, .sentinel, .sentinel, .listed, .data, .pinned], laidTests := true, laidLooks := .later }
def RuleBlanksUptoCardSaid : Prop := Claim7.holds Tryz.pinned (.plain (OpenSpec.upto ruleBlanksSpec)) ruleBlanksUptoCard
end Rows
end Go.Proofs.YtmpfilddeglgbaaGreatDoor
