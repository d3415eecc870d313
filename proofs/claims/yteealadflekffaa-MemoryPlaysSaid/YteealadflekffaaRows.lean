/-
  No cell of these rows narrows 'for every input' (looked for: loops, veiled, ifaces, maps, wideKeys, modest, calm, conditions, laid).
  DERIVED. THE GIVEN ROWS OF THIS SEAT. 6 by the template 'for every input the law returns true; each argument reads behind the call as it read before'; 0 by the template 'total and deterministic' (their statements: YteealadflekffaaTotals.lean).
  GIVEN WITH THE SEED: the statements are not yours to turn. If you find one false, say at which input.
  Laid BY PROGRAM, IN A SANDBOX (cutbox-rows.mjs): the forced cells as the released guide's own fill.sh prints them over the translation 3fb2aab394580d31… (all of the seat's roots in one cut). By AI agents, Wed Nov 11 2026. No macro, syntax, notation, axiom, sorry.
-/
import Derived.Test.YteealadflekffaaChecked
import GoSem.Claim
import GoSem.ClaimJoined
import GoSem.ClaimMapViews
import Derived.JoinedTies
import Derived.KernelRfl
namespace Go.Proofs.Yteealadflekffaa
/- THE CELL 'sum', in the pinned program and in every row, IS THE sha256 OF THE DUMP (.gsa) THAT YteealadflekffaaProg.lean LOADS. Nothing in Lean hashes anything: it is a label: what it is worth is what the hold of that sum in a sandbox is worth. -/
noncomputable def Try.pinned : Pinned := { name := "yteealadflekffaa", sum := "3fb2aab394580d311bb3dfb9d7bc11ea649e28b0aa36d68cfc01048d21b7d4cc", checked := Try.checked }
namespace Rows
def none {H : Type} : Left H := { results := [], args := [] }

/-- 'witanlaw05.MemoryFull': WHATEVER THE INPUT: true; the input reads as it did. -/
def memoryFullSpec : ChangeSpec := { name := "memoryFull", fn := fun _ => fun
  | [d1, d2] => { results := [.lit (.bool true)], args := [d1, d2] }
  | _ => none }
def memoryFullRow : OpenClaim := { program := "yteealadflekffaa", sum := "3fb2aab394580d311bb3dfb9d7bc11ea649e28b0aa36d68cfc01048d21b7d4cc", func := "witan/witanlaw05.MemoryFull", spec := "memoryFull", unfollowed := true, recurses := true, apart := false }
def MemoryFullSaid : Prop := memoryFullRow.holds Try.pinned (OpenSpec.ofChange memoryFullSpec)

/-- ITS FALSE NEIGHBOUR: 'it returns false'. Refute it at one input. -/
def memoryFullWrong : ChangeSpec := { name := "memoryFull", fn := fun _ => fun
  | [d1, d2] => { results := [.lit (.bool false)], args := [d1, d2] }
  | _ => none }
def MemoryFullWrongFalsely : Prop := memoryFullRow.holds Try.pinned (OpenSpec.ofChange memoryFullWrong)

/-- 'witanlaw26.OrderVectors': WHATEVER THE INPUT: true; the input reads as it did. -/
def orderVectorsSpec : ChangeSpec := { name := "orderVectors", fn := fun _ => fun
  | [d1, d2] => { results := [.lit (.bool true)], args := [d1, d2] }
  | _ => none }
def orderVectorsRow : OpenClaim := { program := "yteealadflekffaa", sum := "3fb2aab394580d311bb3dfb9d7bc11ea649e28b0aa36d68cfc01048d21b7d4cc", func := "witan/witanlaw26.OrderVectors", spec := "orderVectors", unfollowed := true, recurses := true, apart := false }
def OrderVectorsSaid : Prop := orderVectorsRow.holds Try.pinned (OpenSpec.ofChange orderVectorsSpec)

/-- ITS FALSE NEIGHBOUR: 'it returns false'. Refute it at one input. -/
def orderVectorsWrong : ChangeSpec := { name := "orderVectors", fn := fun _ => fun
  | [d1, d2] => { results := [.lit (.bool false)], args := [d1, d2] }
  | _ => none }
def OrderVectorsWrongFalsely : Prop := orderVectorsRow.holds Try.pinned (OpenSpec.ofChange orderVectorsWrong)

/-- 'witanlaw26.OrderTotal': WHATEVER THE INPUT: true; the input reads as it did. -/
def orderTotalSpec : ChangeSpec := { name := "orderTotal", fn := fun _ => fun
  | [d1, d2, d3, d4] => { results := [.lit (.bool true)], args := [d1, d2, d3, d4] }
  | _ => none }
def orderTotalRow : OpenClaim := { program := "yteealadflekffaa", sum := "3fb2aab394580d311bb3dfb9d7bc11ea649e28b0aa36d68cfc01048d21b7d4cc", func := "witan/witanlaw26.OrderTotal", spec := "orderTotal", unfollowed := true, recurses := true, apart := false }
def OrderTotalSaid : Prop := orderTotalRow.holds Try.pinned (OpenSpec.ofChange orderTotalSpec)

/-- ITS FALSE NEIGHBOUR: 'it returns false'. Refute it at one input. -/
def orderTotalWrong : ChangeSpec := { name := "orderTotal", fn := fun _ => fun
  | [d1, d2, d3, d4] => { results := [.lit (.bool false)], args := [d1, d2, d3, d4] }
  | _ => none }
def OrderTotalWrongFalsely : Prop := orderTotalRow.holds Try.pinned (OpenSpec.ofChange orderTotalWrong)

/-- 'witanlaw05.MemoryRises': WHATEVER THE INPUT: true; the input reads as it did. -/
def memoryRisesSpec : ChangeSpec := { name := "memoryRises", fn := fun _ => fun
  | [d] => { results := [.lit (.bool true)], args := [d] }
  | _ => none }
def memoryRisesRow : OpenClaim := { program := "yteealadflekffaa", sum := "3fb2aab394580d311bb3dfb9d7bc11ea649e28b0aa36d68cfc01048d21b7d4cc", func := "witan/witanlaw05.MemoryRises", spec := "memoryRises", unfollowed := true, recurses := true, apart := false }
def MemoryRisesSaid : Prop := memoryRisesRow.holds Try.pinned (OpenSpec.ofChange memoryRisesSpec)

/-- ITS FALSE NEIGHBOUR: 'it returns false'. Refute it at one input. -/
def memoryRisesWrong : ChangeSpec := { name := "memoryRises", fn := fun _ => fun
  | [d] => { results := [.lit (.bool false)], args := [d] }
  | _ => none }
def MemoryRisesWrongFalsely : Prop := memoryRisesRow.holds Try.pinned (OpenSpec.ofChange memoryRisesWrong)

/-- 'witanlaw05.MemoryOrder': WHATEVER THE INPUT: true; the input reads as it did. -/
def memoryOrderSpec : ChangeSpec := { name := "memoryOrder", fn := fun _ => fun
  | [d1, d2] => { results := [.lit (.bool true)], args := [d1, d2] }
  | _ => none }
def memoryOrderRow : OpenClaim := { program := "yteealadflekffaa", sum := "3fb2aab394580d311bb3dfb9d7bc11ea649e28b0aa36d68cfc01048d21b7d4cc", func := "witan/witanlaw05.MemoryOrder", spec := "memoryOrder", unfollowed := true, recurses := true, apart := false }
def MemoryOrderSaid : Prop := memoryOrderRow.holds Try.pinned (OpenSpec.ofChange memoryOrderSpec)

/-- ITS FALSE NEIGHBOUR: 'it returns false'. Refute it at one input. -/
def memoryOrderWrong : ChangeSpec := { name := "memoryOrder", fn := fun _ => fun
  | [d1, d2] => { results := [.lit (.bool false)], args := [d1, d2] }
  | _ => none }
def MemoryOrderWrongFalsely : Prop := memoryOrderRow.holds Try.pinned (OpenSpec.ofChange memoryOrderWrong)

/-- 'witanlaw05.MemoryPlays': WHATEVER THE INPUT: true; the input reads as it did. -/
def memoryPlaysSpec : ChangeSpec := { name := "memoryPlays", fn := fun _ => fun
  | [d1, d2, d3, d4, d5] => { results := [.lit (.bool true)], args := [d1, d2, d3, d4, d5] }
  | _ => none }
def memoryPlaysRow : OpenClaim := { program := "yteealadflekffaa", sum := "3fb2aab394580d311bb3dfb9d7bc11ea649e28b0aa36d68cfc01048d21b7d4cc", func := "witan/witanlaw05.MemoryPlays", spec := "memoryPlays", inPlace := ["maps.clone"], unfollowed := true, recurses := true, apart := false }
def MemoryPlaysSaid : Prop := memoryPlaysRow.holds Try.pinned (OpenSpec.ofChange memoryPlaysSpec)

/-- ITS FALSE NEIGHBOUR: 'it returns false'. Refute it at one input. -/
def memoryPlaysWrong : ChangeSpec := { name := "memoryPlays", fn := fun _ => fun
  | [d1, d2, d3, d4, d5] => { results := [.lit (.bool false)], args := [d1, d2, d3, d4, d5] }
  | _ => none }
def MemoryPlaysWrongFalsely : Prop := memoryPlaysRow.holds Try.pinned (OpenSpec.ofChange memoryPlaysWrong)

/- THE SECOND FORM. 'bulk': how many values and letters a reading holds, each counted each time it is reached (what is shared counts as often as it is met; a slice's spare places count too). A statement '..UptoSaid' is the law's where the arguments, and the package variables that the reading takes, are together of bulk at most 1048576: NARROWER than '..Said'. Prove '..Said' where nothing that the law and all that it calls make is longer than what came in: it says more and counts as full. Else prove '..UptoSaid'. A law counts once. -/
mutual
def uptoBulk {H : Type} : DataW H → Nat
  | .lit (.string bytes) => bytes.length + 1
  | .lit _ => 1
  | .nil => 1
  | .ptr d => uptoBulk d + 1
  | .slice elems spare => uptoBulkAll elems + uptoBulkAll spare + 1
  | .agg parts => uptoBulkAll parts + 1
  | .iface _ d => uptoBulk d + 1
  | .map entries => uptoBulkEntries entries + 1
  | .held _ => 1
def uptoBulkAll {H : Type} : List (DataW H) → Nat
  | [] => 0
  | d :: r => uptoBulk d + uptoBulkAll r
def uptoBulkEntries {H : Type} : List (Lit × DataW H) → Nat
  | [] => 0
  | x :: r => uptoBulkEntry x + uptoBulkEntries r
def uptoBulkEntry {H : Type} : Lit × DataW H → Nat
  | (.string bytes, d) => bytes.length + uptoBulk d + 1
  | (_, d) => uptoBulk d + 1
 end
def uptoSmall : (H : Type) → List (DataW H) → Bool := fun _ ds => decide (uptoBulkAll ds ≤ 1048576)
def OpenSpec.upto (s : _root_.Go.ChangeSpec) : _root_.Go.OpenSpec := { _root_.Go.OpenSpec.ofChange s with cond := some uptoSmall }

/-- 'witanlaw05.MemoryFull', WHERE WHAT IT READS IS OF BULK AT MOST 1048576: true; the input reads as it did. -/
def memoryFullUptoRow : OpenClaim := { program := "yteealadflekffaa", sum := "3fb2aab394580d311bb3dfb9d7bc11ea649e28b0aa36d68cfc01048d21b7d4cc", func := "witan/witanlaw05.MemoryFull", spec := "memoryFull", unfollowed := true, recurses := true, apart := false, narrowed := true }
def MemoryFullUptoSaid : Prop := memoryFullUptoRow.holds Try.pinned (OpenSpec.upto memoryFullSpec)

/-- 'witanlaw26.OrderVectors', WHERE WHAT IT READS IS OF BULK AT MOST 1048576: true; the input reads as it did. -/
def orderVectorsUptoRow : OpenClaim := { program := "yteealadflekffaa", sum := "3fb2aab394580d311bb3dfb9d7bc11ea649e28b0aa36d68cfc01048d21b7d4cc", func := "witan/witanlaw26.OrderVectors", spec := "orderVectors", unfollowed := true, recurses := true, apart := false, narrowed := true }
def OrderVectorsUptoSaid : Prop := orderVectorsUptoRow.holds Try.pinned (OpenSpec.upto orderVectorsSpec)

/-- 'witanlaw26.OrderTotal', WHERE WHAT IT READS IS OF BULK AT MOST 1048576: true; the input reads as it did. -/
def orderTotalUptoRow : OpenClaim := { program := "yteealadflekffaa", sum := "3fb2aab394580d311bb3dfb9d7bc11ea649e28b0aa36d68cfc01048d21b7d4cc", func := "witan/witanlaw26.OrderTotal", spec := "orderTotal", unfollowed := true, recurses := true, apart := false, narrowed := true }
def OrderTotalUptoSaid : Prop := orderTotalUptoRow.holds Try.pinned (OpenSpec.upto orderTotalSpec)

/-- 'witanlaw05.MemoryRises', WHERE WHAT IT READS IS OF BULK AT MOST 1048576: true; the input reads as it did. -/
def memoryRisesUptoRow : OpenClaim := { program := "yteealadflekffaa", sum := "3fb2aab394580d311bb3dfb9d7bc11ea649e28b0aa36d68cfc01048d21b7d4cc", func := "witan/witanlaw05.MemoryRises", spec := "memoryRises", unfollowed := true, recurses := true, apart := false, narrowed := true }
def MemoryRisesUptoSaid : Prop := memoryRisesUptoRow.holds Try.pinned (OpenSpec.upto memoryRisesSpec)

/-- 'witanlaw05.MemoryOrder', WHERE WHAT IT READS IS OF BULK AT MOST 1048576: true; the input reads as it did. -/
def memoryOrderUptoRow : OpenClaim := { program := "yteealadflekffaa", sum := "3fb2aab394580d311bb3dfb9d7bc11ea649e28b0aa36d68cfc01048d21b7d4cc", func := "witan/witanlaw05.MemoryOrder", spec := "memoryOrder", unfollowed := true, recurses := true, apart := false, narrowed := true }
def MemoryOrderUptoSaid : Prop := memoryOrderUptoRow.holds Try.pinned (OpenSpec.upto memoryOrderSpec)

/-- 'witanlaw05.MemoryPlays', WHERE WHAT IT READS IS OF BULK AT MOST 1048576: true; the input reads as it did. -/
def memoryPlaysUptoRow : OpenClaim := { program := "yteealadflekffaa", sum := "3fb2aab394580d311bb3dfb9d7bc11ea649e28b0aa36d68cfc01048d21b7d4cc", func := "witan/witanlaw05.MemoryPlays", spec := "memoryPlays", inPlace := ["maps.clone"], unfollowed := true, recurses := true, apart := false, narrowed := true }
def MemoryPlaysUptoSaid : Prop := memoryPlaysUptoRow.holds Try.pinned (OpenSpec.upto memoryPlaysSpec)

end Rows
end Go.Proofs.Yteealadflekffaa
