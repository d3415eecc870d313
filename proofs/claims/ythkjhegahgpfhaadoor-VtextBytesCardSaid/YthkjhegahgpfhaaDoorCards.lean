/-
  DERIVED. GIVEN WITH THE SEED: THE CARDS: each row of YthkjhegahgpfhaaDoorRows.lean that lists a variable, with what it lists TIED to the program's text (the seventh form; the later family's looks); each row that meets fmt, with fmt's text TOLD by the authors' own Lean function (tested against real Go, not proved from fmt's source: count such statements apart). THE CARD IS WHAT COUNTS. Prove the row's statement (the work); the ties are given (YthkjhegahgpfhaaDoorTie.lean); close each card by the builder's one call (the guide's Derived/Test/ToyasCard.lean, 'card_holds'). Laid BY PROGRAM, IN A SANDBOX (cutbox-door.mjs). By AI agents, Wed Nov 11 2026. No macro, syntax, notation, axiom, sorry.
-/
import Derived.Test.YthkjhegahgpfhaaDoorRows
import GoSem.ClaimSeven
namespace Go.Proofs.YthkjhegahgpfhaaDoor
namespace Rows

/-- THE TIED CARD OF 'witanlaw03.VtextOnly'. -/
def vtextOnlyCard : Claim7 := { stood := { row := vtextOnlyRow, standIns := [], harness := (true, "e2c8f06d1ca8a192d78ff8306280356fc36a1042e329c5ad583a451986ec3499"), looks := true }, kinds := [], alts := [], laidByText := true, laidKinds := [.data, .data, .data, .data, .sentinel, .sentinel, .pinned], laidTests := true, laidLooks := .later }
def VtextOnlyCardSaid : Prop := Claim7.holds Tryd.pinned (.plain (OpenSpec.ofChange vtextOnlySpec)) vtextOnlyCard

/-- THE TIED CARD OF 'witanlaw03.VtextApart'. -/
def vtextApartCard : Claim7 := { stood := { row := vtextApartRow, standIns := [], harness := (true, "e2c8f06d1ca8a192d78ff8306280356fc36a1042e329c5ad583a451986ec3499"), looks := true }, kinds := [], alts := [], laidByText := true, laidKinds := [.data, .data, .data, .data, .sentinel, .sentinel, .pinned], laidTests := true, laidLooks := .later }
def VtextApartCardSaid : Prop := Claim7.holds Tryd.pinned (.plain (OpenSpec.ofChange vtextApartSpec)) vtextApartCard

/-- THE TIED CARD OF 'witanlaw03.VtextBytes'. -/
def vtextBytesCard : Claim7 := { stood := { row := vtextBytesRow, standIns := [], harness := (true, "e2c8f06d1ca8a192d78ff8306280356fc36a1042e329c5ad583a451986ec3499"), looks := true }, kinds := [], alts := [], laidByText := true, laidKinds := [.data, .data, .data, .data, .sentinel, .sentinel, .pinned], laidTests := true, laidLooks := .later }
def VtextBytesCardSaid : Prop := Claim7.holds Tryd.pinned (.plain (OpenSpec.ofChange vtextBytesSpec)) vtextBytesCard

/-- THE SECOND FORM's CARD OF 'witanlaw03.VtextOnly'. -/
def vtextOnlyUptoCard : Claim7 := { stood := { row := vtextOnlyUptoRow, standIns := [], harness := (true, "e2c8f06d1ca8a192d78ff8306280356fc36a1042e329c5ad583a451986ec3499"), looks := true }, kinds := [], alts := [], laidByText := true, laidKinds := [.data, .data, .data, .data, .sentinel, .sentinel, .pinned], laidTests := true, laidLooks := .later }
def VtextOnlyUptoCardSaid : Prop := Claim7.holds Tryd.pinned (.plain (OpenSpec.upto vtextOnlySpec)) vtextOnlyUptoCard

/-- THE SECOND FORM's CARD OF 'witanlaw03.VtextApart'. -/
def vtextApartUptoCard : Claim7 := { stood := { row := vtextApartUptoRow, standIns := [], harness := (true, "e2c8f06d1ca8a192d78ff8306280356fc36a1042e329c5ad583a451986ec3499"), looks := true }, kinds := [], alts := [], laidByText := true, laidKinds := [.data, .data, .data, .data, .sentinel, .sentinel, .pinned], laidTests := true, laidLooks := .later }
def VtextApartUptoCardSaid : Prop := Claim7.holds Tryd.pinned (.plain (OpenSpec.upto vtextApartSpec)) vtextApartUptoCard

/-- THE SECOND FORM's CARD OF 'witanlaw03.VtextBytes'. -/
def vtextBytesUptoCard : Claim7 := { stood := { row := vtextBytesUptoRow, standIns := [], harness := (true, "e2c8f06d1ca8a192d78ff8306280356fc36a1042e329c5ad583a451986ec3499"), looks := true }, kinds := [], alts := [], laidByText := true, laidKinds := [.data, .data, .data, .data, .sentinel, .sentinel, .pinned], laidTests := true, laidLooks := .later }
def VtextBytesUptoCardSaid : Prop := Claim7.holds Tryd.pinned (.plain (OpenSpec.upto vtextBytesSpec)) vtextBytesUptoCard
end Rows
end Go.Proofs.YthkjhegahgpfhaaDoor
