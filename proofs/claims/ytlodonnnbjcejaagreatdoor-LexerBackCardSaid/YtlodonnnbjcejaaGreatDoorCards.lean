/-
  DERIVED. GIVEN WITH THE SEED: THE CARDS: each row of YtlodonnnbjcejaaGreatDoorRows.lean that lists a variable, with what it lists TIED to the program's text (the seventh form; the later family's looks); each row that meets fmt, with fmt's text TOLD by the authors' own Lean function (tested against real Go, not proved from fmt's source: count such statements apart). THE CARD IS WHAT COUNTS. Prove the row's statement (the work); the ties are given (YtlodonnnbjcejaaGreatDoorTie.lean); close each card by the builder's one call (the guide's Derived/Test/ToyasCard.lean, 'card_holds'). Laid BY PROGRAM, IN A SANDBOX (cutbox-door.mjs). By AI agents, Wed Nov 11 2026. No macro, syntax, notation, axiom, sorry.
-/
import Derived.Test.YtlodonnnbjcejaaGreatDoorRows
import GoSem.ClaimSeven
namespace Go.Proofs.YtlodonnnbjcejaaGreatDoor
namespace Rows

/-- THE TIED CARD OF 'witanlaw03.VtextText'. -/
def vtextTextCard : Claim7 := { stood := { row := vtextTextRow, standIns := [], harness := (true, "d561c25f70ac1352379e46350978a2ced498706d1c337c6be603f88fa415ebc6"), looks := true }, kinds := [], alts := [], laidByText := true, laidKinds := [.data, .data, .data, .data, .sentinel, .sentinel, .pinned], laidTests := true, laidLooks := .later }
def VtextTextCardSaid : Prop := Claim7.holds Tryz.pinned (.plain (OpenSpec.ofChange vtextTextSpec)) vtextTextCard

/-- THE TIED CARD OF 'witanlaw06.LexerJoins'. -/
def lexerJoinsCard : Claim7 := { stood := { row := lexerJoinsRow, standIns := [], harness := (true, "d561c25f70ac1352379e46350978a2ced498706d1c337c6be603f88fa415ebc6"), looks := true }, kinds := [], alts := [], laidByText := true, laidKinds := [.data, .data, .data, .data, .sentinel, .sentinel, .pinned], laidTests := true, laidLooks := .later }
def LexerJoinsCardSaid : Prop := Claim7.holds Tryz.pinned (.plain (OpenSpec.ofChange lexerJoinsSpec)) lexerJoinsCard

/-- THE TIED CARD OF 'witanlaw06.LexerCuts'. -/
def lexerCutsCard : Claim7 := { stood := { row := lexerCutsRow, standIns := [], harness := (true, "d561c25f70ac1352379e46350978a2ced498706d1c337c6be603f88fa415ebc6"), looks := true }, kinds := [], alts := [], laidByText := true, laidKinds := [.data, .data, .data, .data, .sentinel, .sentinel, .pinned], laidTests := true, laidLooks := .later }
def LexerCutsCardSaid : Prop := Claim7.holds Tryz.pinned (.plain (OpenSpec.ofChange lexerCutsSpec)) lexerCutsCard

/-- THE TIED CARD OF 'witanlaw06.LexerBack'. -/
def lexerBackCard : Claim7 := { stood := { row := lexerBackRow, standIns := [], harness := (true, "d561c25f70ac1352379e46350978a2ced498706d1c337c6be603f88fa415ebc6"), looks := true }, kinds := [], alts := [], laidByText := true, laidKinds := [.data, .data, .data, .data, .sentinel, .sentinel, .pinned], laidTests := true, laidLooks := .later }
def LexerBackCardSaid : Prop := Claim7.holds Tryz.pinned (.plain (OpenSpec.ofChange lexerBackSpec)) lexerBackCard

/-- THE SECOND FORM's CARD OF 'witanlaw03.VtextText'. -/
def vtextTextUptoCard : Claim7 := { stood := { row := vtextTextUptoRow, standIns := [], harness := (true, "d561c25f70ac1352379e46350978a2ced498706d1c337c6be603f88fa415ebc6"), looks := true }, kinds := [], alts := [], laidByText := true, laidKinds := [.data, .data, .data, .data, .sentinel, .sentinel, .pinned], laidTests := true, laidLooks := .later }
def VtextTextUptoCardSaid : Prop := Claim7.holds Tryz.pinned (.plain (OpenSpec.upto vtextTextSpec)) vtextTextUptoCard

/-- THE SECOND FORM's CARD OF 'witanlaw06.LexerJoins'. -/
def lexerJoinsUptoCard : Claim7 := { stood := { row := lexerJoinsUptoRow, standIns := [], harness := (true, "d561c25f70ac1352379e46350978a2ced498706d1c337c6be603f88fa415ebc6"), looks := true }, kinds := [], alts := [], laidByText := true, laidKinds := [.data, .data, .data, .data, .sentinel, .sentinel, .pinned], laidTests := true, laidLooks := .later }
def LexerJoinsUptoCardSaid : Prop := Claim7.holds Tryz.pinned (.plain (OpenSpec.upto lexerJoinsSpec)) lexerJoinsUptoCard

/-- THE SECOND FORM's CARD OF 'witanlaw06.LexerCuts'. -/
def lexerCutsUptoCard : Claim7 := { stood := { row := lexerCutsUptoRow, standIns := [], harness := (true, "d561c25f70ac1352379e46350978a2ced498706d1c337c6be603f88fa415ebc6"), looks := true }, kinds := [], alts := [], laidByText := true, laidKinds := [.data, .data, .data, .data, .sentinel, .sentinel, .pinned], laidTests := true, laidLooks := .later }
def LexerCutsUptoCardSaid : Prop := Claim7.holds Tryz.pinned (.plain (OpenSpec.upto lexerCutsSpec)) lexerCutsUptoCard

/-- THE SECOND FORM's CARD OF 'witanlaw06.LexerBack'. -/
def lexerBackUptoCard : Claim7 := { stood := { row := lexerBackUptoRow, standIns := [], harness := (true, "d561c25f70ac1352379e46350978a2ced498706d1c337c6be603f88fa415ebc6"), looks := true }, kinds := [], alts := [], laidByText := true, laidKinds := [.data, .data, .data, .data, .sentinel, .sentinel, .pinned], laidTests := true, laidLooks := .later }
def LexerBackUptoCardSaid : Prop := Claim7.holds Tryz.pinned (.plain (OpenSpec.upto lexerBackSpec)) lexerBackUptoCard
end Rows
end Go.Proofs.YtlodonnnbjcejaaGreatDoor
