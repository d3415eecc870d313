/-
  DERIVED. GIVEN WITH THE SEED: THE CARDS: each row of YteealadflekffaaDoorRows.lean that lists a variable, with what it lists TIED to the program's text (the seventh form; the later family's looks); each row that meets fmt, with fmt's text TOLD by the authors' own Lean function (tested against real Go, not proved from fmt's source: count such statements apart). THE CARD IS WHAT COUNTS. Prove the row's statement (the work); the ties are given (YteealadflekffaaDoorTie.lean); close each card by the builder's one call (the guide's Derived/Test/ToyasCard.lean, 'card_holds'). Laid BY PROGRAM, IN A SANDBOX (cutbox-door.mjs). By AI agents, Wed Nov 11 2026. No macro, syntax, notation, axiom, sorry.
-/
import Derived.Test.YteealadflekffaaDoorRows
import GoSem.ClaimSeven
namespace Go.Proofs.YteealadflekffaaDoor
namespace Rows

/-- THE TIED CARD OF 'witanlaw04.TemplateFits'. -/
def templateFitsCard : Claim7 := { stood := { row := templateFitsRow, standIns := [], harness := (true, "52ddb7e4dc1c3b54aa6d1268a8283bec84417c800bb957abe5da6e60bd7d41fc"), looks := false }, kinds := [], alts := [], laidByText := true, laidKinds := [.data, .listed, .data, .pinned], laidTests := true, laidLooks := .later }
def TemplateFitsCardSaid : Prop := Claim7.holds Tryd.pinned (.plain (OpenSpec.ofChange templateFitsSpec)) templateFitsCard

/-- THE TIED CARD OF 'witanlaw04.TemplateNulls'. -/
def templateNullsCard : Claim7 := { stood := { row := templateNullsRow, standIns := [], harness := (true, "52ddb7e4dc1c3b54aa6d1268a8283bec84417c800bb957abe5da6e60bd7d41fc"), looks := false }, kinds := [], alts := [], laidByText := true, laidKinds := [.data, .listed, .data, .pinned], laidTests := true, laidLooks := .later }
def TemplateNullsCardSaid : Prop := Claim7.holds Tryd.pinned (.plain (OpenSpec.ofChange templateNullsSpec)) templateNullsCard

/-- THE TIED CARD OF 'witanlaw04.TemplateNames'. -/
def templateNamesCard : Claim7 := { stood := { row := templateNamesRow, standIns := [], harness := (true, "52ddb7e4dc1c3b54aa6d1268a8283bec84417c800bb957abe5da6e60bd7d41fc"), looks := false }, kinds := [], alts := [], laidByText := true, laidKinds := [.data, .listed, .data, .pinned], laidTests := true, laidLooks := .later }
def TemplateNamesCardSaid : Prop := Claim7.holds Tryd.pinned (.plain (OpenSpec.ofChange templateNamesSpec)) templateNamesCard

/-- THE TIED CARD OF 'witanlaw04.TemplateKinds'. -/
def templateKindsCard : Claim7 := { stood := { row := templateKindsRow, standIns := [], harness := (true, "52ddb7e4dc1c3b54aa6d1268a8283bec84417c800bb957abe5da6e60bd7d41fc"), looks := false }, kinds := [], alts := [], laidByText := true, laidKinds := [.data, .listed, .data, .pinned], laidTests := true, laidLooks := .later }
def TemplateKindsCardSaid : Prop := Claim7.holds Tryd.pinned (.plain (OpenSpec.ofChange templateKindsSpec)) templateKindsCard

/-- THE TIED CARD OF 'witanlaw04.TemplateMay'. -/
def templateMayCard : Claim7 := { stood := { row := templateMayRow, standIns := [], harness := (true, "52ddb7e4dc1c3b54aa6d1268a8283bec84417c800bb957abe5da6e60bd7d41fc"), looks := false }, kinds := [], alts := [], laidByText := true, laidKinds := [.data, .listed, .data, .pinned], laidTests := true, laidLooks := .later }
def TemplateMayCardSaid : Prop := Claim7.holds Tryd.pinned (.plain (OpenSpec.ofChange templateMaySpec)) templateMayCard

/-- THE SECOND FORM's CARD OF 'witanlaw04.TemplateFits'. -/
def templateFitsUptoCard : Claim7 := { stood := { row := templateFitsUptoRow, standIns := [], harness := (true, "52ddb7e4dc1c3b54aa6d1268a8283bec84417c800bb957abe5da6e60bd7d41fc"), looks := false }, kinds := [], alts := [], laidByText := true, laidKinds := [.data, .listed, .data, .pinned], laidTests := true, laidLooks := .later }
def TemplateFitsUptoCardSaid : Prop := Claim7.holds Tryd.pinned (.plain (OpenSpec.upto templateFitsSpec)) templateFitsUptoCard

/-- THE SECOND FORM's CARD OF 'witanlaw04.TemplateNulls'. -/
def templateNullsUptoCard : Claim7 := { stood := { row := templateNullsUptoRow, standIns := [], harness := (true, "52ddb7e4dc1c3b54aa6d1268a8283bec84417c800bb957abe5da6e60bd7d41fc"), looks := false }, kinds := [], alts := [], laidByText := true, laidKinds := [.data, .listed, .data, .pinned], laidTests := true, laidLooks := .later }
def TemplateNullsUptoCardSaid : Prop := Claim7.holds Tryd.pinned (.plain (OpenSpec.upto templateNullsSpec)) templateNullsUptoCard

/-- THE SECOND FORM's CARD OF 'witanlaw04.TemplateNames'. -/
def templateNamesUptoCard : Claim7 := { stood := { row := templateNamesUptoRow, standIns := [], harness := (true, "52ddb7e4dc1c3b54aa6d1268a8283bec84417c800bb957abe5da6e60bd7d41fc"), looks := false }, kinds := [], alts := [], laidByText := true, laidKinds := [.data, .listed, .data, .pinned], laidTests := true, laidLooks := .later }
def TemplateNamesUptoCardSaid : Prop := Claim7.holds Tryd.pinned (.plain (OpenSpec.upto templateNamesSpec)) templateNamesUptoCard

/-- THE SECOND FORM's CARD OF 'witanlaw04.TemplateKinds'. -/
def templateKindsUptoCard : Claim7 := { stood := { row := templateKindsUptoRow, standIns := [], harness := (true, "52ddb7e4dc1c3b54aa6d1268a8283bec84417c800bb957abe5da6e60bd7d41fc"), looks := false }, kinds := [], alts := [], laidByText := true, laidKinds := [.data, .listed, .data, .pinned], laidTests := true, laidLooks := .later }
def TemplateKindsUptoCardSaid : Prop := Claim7.holds Tryd.pinned (.plain (OpenSpec.upto templateKindsSpec)) templateKindsUptoCard

/-- THE SECOND FORM's CARD OF 'witanlaw04.TemplateMay'. -/
def templateMayUptoCard : Claim7 := { stood := { row := templateMayUptoRow, standIns := [], harness := (true, "52ddb7e4dc1c3b54aa6d1268a8283bec84417c800bb957abe5da6e60bd7d41fc"), looks := false }, kinds := [], alts := [], laidByText := true, laidKinds := [.data, .listed, .data, .pinned], laidTests := true, laidLooks := .later }
def TemplateMayUptoCardSaid : Prop := Claim7.holds Tryd.pinned (.plain (OpenSpec.upto templateMaySpec)) templateMayUptoCard
end Rows
end Go.Proofs.YteealadflekffaaDoor
