/-
  No cell of these rows narrows 'for every input' (looked for: loops, veiled, ifaces, maps, wideKeys, modest, calm, conditions, laid).
  DERIVED. THE GIVEN ROWS OF THIS SEAT. 5 by the template 'for every input the law returns true; each argument reads behind the call as it read before'; 0 by the template 'total and deterministic' (their statements: YtelgajgghgknnaaTotals.lean).
  GIVEN WITH THE SEED: the statements are not yours to turn. If you find one false, say at which input.
  Laid BY PROGRAM, IN A SANDBOX (cutbox-rows.mjs): the forced cells as the released guide's own fill.sh prints them over the translation 2ef197d8c96c80cc… (all of the seat's roots in one cut). By AI agents, Wed Nov 11 2026. No macro, syntax, notation, axiom, sorry.
-/
import Derived.Test.YtelgajgghgknnaaChecked
import GoSem.Claim
import GoSem.ClaimJoined
import GoSem.ClaimMapViews
import Derived.JoinedTies
import Derived.KernelRfl
namespace Go.Proofs.Ytelgajgghgknnaa
/- THE CELL 'sum', in the pinned program and in every row, IS THE sha256 OF THE DUMP (.gsa) THAT YtelgajgghgknnaaProg.lean LOADS. Nothing in Lean hashes anything: it is a label: what it is worth is what the hold of that sum in a sandbox is worth. -/
noncomputable def Try.pinned : Pinned := { name := "ytelgajgghgknnaa", sum := "2ef197d8c96c80cc501083c9333c5931f3cd3639da4fefcedff6ac5a04da9865", checked := Try.checked }
namespace Rows
def none {H : Type} : Left H := { results := [], args := [] }

/-- 'witanlaw27.AgendaGone': WHATEVER THE INPUT: true; the input reads as it did. -/
def agendaGoneSpec : ChangeSpec := { name := "agendaGone", fn := fun _ => fun
  | [d1, d2, d3, d4] => { results := [.lit (.bool true)], args := [d1, d2, d3, d4] }
  | _ => none }
def agendaGoneRow : OpenClaim := { program := "ytelgajgghgknnaa", sum := "2ef197d8c96c80cc501083c9333c5931f3cd3639da4fefcedff6ac5a04da9865", func := "witan/witanlaw27.AgendaGone", spec := "agendaGone", inPlace := ["slices.overlaps[witan/agenda.entry]"], unfollowed := true, recurses := true, apart := false }
def AgendaGoneSaid : Prop := agendaGoneRow.holds Try.pinned (OpenSpec.ofChange agendaGoneSpec)

/-- ITS FALSE NEIGHBOUR: 'it returns false'. Refute it at one input. -/
def agendaGoneWrong : ChangeSpec := { name := "agendaGone", fn := fun _ => fun
  | [d1, d2, d3, d4] => { results := [.lit (.bool false)], args := [d1, d2, d3, d4] }
  | _ => none }
def AgendaGoneWrongFalsely : Prop := agendaGoneRow.holds Try.pinned (OpenSpec.ofChange agendaGoneWrong)

/-- 'witanlaw27.AgendaOnce': WHATEVER THE INPUT: true; the input reads as it did. -/
def agendaOnceSpec : ChangeSpec := { name := "agendaOnce", fn := fun _ => fun
  | [d1, d2] => { results := [.lit (.bool true)], args := [d1, d2] }
  | _ => none }
def agendaOnceRow : OpenClaim := { program := "ytelgajgghgknnaa", sum := "2ef197d8c96c80cc501083c9333c5931f3cd3639da4fefcedff6ac5a04da9865", func := "witan/witanlaw27.AgendaOnce", spec := "agendaOnce", inPlace := ["slices.overlaps[witan/agenda.entry]"], unfollowed := true, recurses := true, apart := false }
def AgendaOnceSaid : Prop := agendaOnceRow.holds Try.pinned (OpenSpec.ofChange agendaOnceSpec)

/-- ITS FALSE NEIGHBOUR: 'it returns false'. Refute it at one input. -/
def agendaOnceWrong : ChangeSpec := { name := "agendaOnce", fn := fun _ => fun
  | [d1, d2] => { results := [.lit (.bool false)], args := [d1, d2] }
  | _ => none }
def AgendaOnceWrongFalsely : Prop := agendaOnceRow.holds Try.pinned (OpenSpec.ofChange agendaOnceWrong)

/-- 'witanlaw27.AgendaList': WHATEVER THE INPUT: true; the input reads as it did. -/
def agendaListSpec : ChangeSpec := { name := "agendaList", fn := fun _ => fun
  | [d1, d2, d3] => { results := [.lit (.bool true)], args := [d1, d2, d3] }
  | _ => none }
def agendaListRow : OpenClaim := { program := "ytelgajgghgknnaa", sum := "2ef197d8c96c80cc501083c9333c5931f3cd3639da4fefcedff6ac5a04da9865", func := "witan/witanlaw27.AgendaList", spec := "agendaList", inPlace := ["slices.overlaps[witan/agenda.entry]"], unfollowed := true, recurses := true, apart := false }
def AgendaListSaid : Prop := agendaListRow.holds Try.pinned (OpenSpec.ofChange agendaListSpec)

/-- ITS FALSE NEIGHBOUR: 'it returns false'. Refute it at one input. -/
def agendaListWrong : ChangeSpec := { name := "agendaList", fn := fun _ => fun
  | [d1, d2, d3] => { results := [.lit (.bool false)], args := [d1, d2, d3] }
  | _ => none }
def AgendaListWrongFalsely : Prop := agendaListRow.holds Try.pinned (OpenSpec.ofChange agendaListWrong)

/-- 'witanlaw27.AgendaPlays': WHATEVER THE INPUT: true; the input reads as it did. -/
def agendaPlaysSpec : ChangeSpec := { name := "agendaPlays", fn := fun _ => fun
  | [d1, d2, d3] => { results := [.lit (.bool true)], args := [d1, d2, d3] }
  | _ => none }
def agendaPlaysRow : OpenClaim := { program := "ytelgajgghgknnaa", sum := "2ef197d8c96c80cc501083c9333c5931f3cd3639da4fefcedff6ac5a04da9865", func := "witan/witanlaw27.AgendaPlays", spec := "agendaPlays", inPlace := ["slices.overlaps[witan/agenda.entry]"], unfollowed := true, recurses := true, apart := false }
def AgendaPlaysSaid : Prop := agendaPlaysRow.holds Try.pinned (OpenSpec.ofChange agendaPlaysSpec)

/-- ITS FALSE NEIGHBOUR: 'it returns false'. Refute it at one input. -/
def agendaPlaysWrong : ChangeSpec := { name := "agendaPlays", fn := fun _ => fun
  | [d1, d2, d3] => { results := [.lit (.bool false)], args := [d1, d2, d3] }
  | _ => none }
def AgendaPlaysWrongFalsely : Prop := agendaPlaysRow.holds Try.pinned (OpenSpec.ofChange agendaPlaysWrong)

/-- 'witanlaw27.AgendaNone': WHATEVER THE INPUT: true; the input reads as it did. -/
def agendaNoneSpec : ChangeSpec := { name := "agendaNone", fn := fun _ => fun
  | [d] => { results := [.lit (.bool true)], args := [d] }
  | _ => none }
def agendaNoneRow : OpenClaim := { program := "ytelgajgghgknnaa", sum := "2ef197d8c96c80cc501083c9333c5931f3cd3639da4fefcedff6ac5a04da9865", func := "witan/witanlaw27.AgendaNone", spec := "agendaNone", inPlace := ["slices.overlaps[witan/agenda.entry]"], unfollowed := true, recurses := true, apart := false }
def AgendaNoneSaid : Prop := agendaNoneRow.holds Try.pinned (OpenSpec.ofChange agendaNoneSpec)

/-- ITS FALSE NEIGHBOUR: 'it returns false'. Refute it at one input. -/
def agendaNoneWrong : ChangeSpec := { name := "agendaNone", fn := fun _ => fun
  | [d] => { results := [.lit (.bool false)], args := [d] }
  | _ => none }
def AgendaNoneWrongFalsely : Prop := agendaNoneRow.holds Try.pinned (OpenSpec.ofChange agendaNoneWrong)

/- THE SECOND FORM. 'bulk': how many values and letters a reading holds, each counted each time it is reached (what is shared counts as often as it is met; a slice's spare places count too). A statement '..UptoSaid' is the law's where the arguments, and the package variables that the reading takes, are together of bulk at most 1048576: NARROWER than '..Said'. Prove '..Said' where nothing that the law and all that it calls make is longer than what came in: it says more and counts as full. Else prove '..UptoSaid'. A law counts once. -/
mutual
def uptoBulk {H : Type} : DataW H → Nat
  | .lit (.string bytes) => bytes.length + 1
  | .lit _ => 1
  | .nil => 1
  | .ptr d => uptoBulk d + 1
  | .slice elems spare => uptoBulkAll elems + uptoBulkAll spare + 1
  | .agg parts => uptoBulkAll parts + 1
  | .iface _ d => uptoBulk d + 1
  | .map entries => uptoBulkEntries entries + 1
  | .held _ => 1
def uptoBulkAll {H : Type} : List (DataW H) → Nat
  | [] => 0
  | d :: r => uptoBulk d + uptoBulkAll r
def uptoBulkEntries {H : Type} : List (Lit × DataW H) → Nat
  | [] => 0
  | x :: r => uptoBulkEntry x + uptoBulkEntries r
def uptoBulkEntry {H : Type} : Lit × DataW H → Nat
  | (.string bytes, d) => bytes.length + uptoBulk d + 1
  | (_, d) => uptoBulk d + 1
 end
def uptoSmall : (H : Type) → List (DataW H) → Bool := fun _ ds => decide (uptoBulkAll ds ≤ 1048576)
def OpenSpec.upto (s : _root_.Go.ChangeSpec) : _root_.Go.OpenSpec := { _root_.Go.OpenSpec.ofChange s with cond := some uptoSmall }

/-- 'witanlaw27.AgendaGone', WHERE WHAT IT READS IS OF BULK AT MOST 1048576: true; the input reads as it did. -/
def agendaGoneUptoRow : OpenClaim := { program := "ytelgajgghgknnaa", sum := "2ef197d8c96c80cc501083c9333c5931f3cd3639da4fefcedff6ac5a04da9865", func := "witan/witanlaw27.AgendaGone", spec := "agendaGone", inPlace := ["slices.overlaps[witan/agenda.entry]"], unfollowed := true, recurses := true, apart := false, narrowed := true }
def AgendaGoneUptoSaid : Prop := agendaGoneUptoRow.holds Try.pinned (OpenSpec.upto agendaGoneSpec)

/-- 'witanlaw27.AgendaOnce', WHERE WHAT IT READS IS OF BULK AT MOST 1048576: true; the input reads as it did. -/
def agendaOnceUptoRow : OpenClaim := { program := "ytelgajgghgknnaa", sum := "2ef197d8c96c80cc501083c9333c5931f3cd3639da4fefcedff6ac5a04da9865", func := "witan/witanlaw27.AgendaOnce", spec := "agendaOnce", inPlace := ["slices.overlaps[witan/agenda.entry]"], unfollowed := true, recurses := true, apart := false, narrowed := true }
def AgendaOnceUptoSaid : Prop := agendaOnceUptoRow.holds Try.pinned (OpenSpec.upto agendaOnceSpec)

/-- 'witanlaw27.AgendaList', WHERE WHAT IT READS IS OF BULK AT MOST 1048576: true; the input reads as it did. -/
def agendaListUptoRow : OpenClaim := { program := "ytelgajgghgknnaa", sum := "2ef197d8c96c80cc501083c9333c5931f3cd3639da4fefcedff6ac5a04da9865", func := "witan/witanlaw27.AgendaList", spec := "agendaList", inPlace := ["slices.overlaps[witan/agenda.entry]"], unfollowed := true, recurses := true, apart := false, narrowed := true }
def AgendaListUptoSaid : Prop := agendaListUptoRow.holds Try.pinned (OpenSpec.upto agendaListSpec)

/-- 'witanlaw27.AgendaPlays', WHERE WHAT IT READS IS OF BULK AT MOST 1048576: true; the input reads as it did. -/
def agendaPlaysUptoRow : OpenClaim := { program := "ytelgajgghgknnaa", sum := "2ef197d8c96c80cc501083c9333c5931f3cd3639da4fefcedff6ac5a04da9865", func := "witan/witanlaw27.AgendaPlays", spec := "agendaPlays", inPlace := ["slices.overlaps[witan/agenda.entry]"], unfollowed := true, recurses := true, apart := false, narrowed := true }
def AgendaPlaysUptoSaid : Prop := agendaPlaysUptoRow.holds Try.pinned (OpenSpec.upto agendaPlaysSpec)

/-- 'witanlaw27.AgendaNone', WHERE WHAT IT READS IS OF BULK AT MOST 1048576: true; the input reads as it did. -/
def agendaNoneUptoRow : OpenClaim := { program := "ytelgajgghgknnaa", sum := "2ef197d8c96c80cc501083c9333c5931f3cd3639da4fefcedff6ac5a04da9865", func := "witan/witanlaw27.AgendaNone", spec := "agendaNone", inPlace := ["slices.overlaps[witan/agenda.entry]"], unfollowed := true, recurses := true, apart := false, narrowed := true }
def AgendaNoneUptoSaid : Prop := agendaNoneUptoRow.holds Try.pinned (OpenSpec.upto agendaNoneSpec)

end Rows
end Go.Proofs.Ytelgajgghgknnaa
