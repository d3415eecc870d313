/-
  No cell of these rows narrows 'for every input' (looked for: loops, veiled, ifaces, maps, wideKeys, modest, calm, conditions, laid).
  DERIVED. THE GIVEN ROWS OF THIS SEAT. 8 by the template 'for every input the law returns true; each argument reads behind the call as it read before'; 0 by the template 'total and deterministic' (their statements: YtmcajoccfbebiaaTotals.lean).
  GIVEN WITH THE SEED: the statements are not yours to turn. If you find one false, say at which input.
  Laid BY PROGRAM, IN A SANDBOX (cutbox-rows.mjs): the forced cells as the released guide's own fill.sh prints them over the translation 473e1748a9188a5d… (all of the seat's roots in one cut). By AI agents, Wed Nov 11 2026. No macro, syntax, notation, axiom, sorry.
-/
import Derived.Test.YtmcajoccfbebiaaChecked
import GoSem.Claim
import GoSem.ClaimJoined
import GoSem.ClaimMapViews
import Derived.JoinedTies
import Derived.KernelRfl
namespace Go.Proofs.Ytmcajoccfbebiaa
/- THE CELL 'sum', in the pinned program and in every row, IS THE sha256 OF THE DUMP (.gsa) THAT YtmcajoccfbebiaaProg.lean LOADS. Nothing in Lean hashes anything: it is a label: what it is worth is what the hold of that sum in a sandbox is worth. -/
noncomputable def Try.pinned : Pinned := { name := "ytmcajoccfbebiaa", sum := "473e1748a9188a5de271de3a368623036c3e87b7f5f379daabf93f437db34633", checked := Try.checked }
namespace Rows
def none {H : Type} : Left H := { results := [], args := [] }

/-- 'witanlaw21.TokensApart': WHATEVER THE INPUT: true; the input reads as it did. -/
def tokensApartSpec : ChangeSpec := { name := "tokensApart", fn := fun _ => fun
  | [d1, d2] => { results := [.lit (.bool true)], args := [d1, d2] }
  | _ => none }
def tokensApartRow : OpenClaim := { program := "ytmcajoccfbebiaa", sum := "473e1748a9188a5de271de3a368623036c3e87b7f5f379daabf93f437db34633", func := "witan/witanlaw21.TokensApart", spec := "tokensApart", unfollowed := true, recurses := true, apart := false }
def TokensApartSaid : Prop := tokensApartRow.holds Try.pinned (OpenSpec.ofChange tokensApartSpec)

/-- ITS FALSE NEIGHBOUR: 'it returns false'. Refute it at one input. -/
def tokensApartWrong : ChangeSpec := { name := "tokensApart", fn := fun _ => fun
  | [d1, d2] => { results := [.lit (.bool false)], args := [d1, d2] }
  | _ => none }
def TokensApartWrongFalsely : Prop := tokensApartRow.holds Try.pinned (OpenSpec.ofChange tokensApartWrong)

/-- 'witanlaw21.TokensTree': WHATEVER THE INPUT: true; the input reads as it did. -/
def tokensTreeSpec : ChangeSpec := { name := "tokensTree", fn := fun _ => fun
  | [d] => { results := [.lit (.bool true)], args := [d] }
  | _ => none }
def tokensTreeRow : OpenClaim := { program := "ytmcajoccfbebiaa", sum := "473e1748a9188a5de271de3a368623036c3e87b7f5f379daabf93f437db34633", func := "witan/witanlaw21.TokensTree", spec := "tokensTree", unfollowed := true, recurses := true, apart := false }
def TokensTreeSaid : Prop := tokensTreeRow.holds Try.pinned (OpenSpec.ofChange tokensTreeSpec)

/-- ITS FALSE NEIGHBOUR: 'it returns false'. Refute it at one input. -/
def tokensTreeWrong : ChangeSpec := { name := "tokensTree", fn := fun _ => fun
  | [d] => { results := [.lit (.bool false)], args := [d] }
  | _ => none }
def TokensTreeWrongFalsely : Prop := tokensTreeRow.holds Try.pinned (OpenSpec.ofChange tokensTreeWrong)

/-- 'witanlaw21.TokensLists': WHATEVER THE INPUT: true; the input reads as it did. -/
def tokensListsSpec : ChangeSpec := { name := "tokensLists", fn := fun _ => fun
  | [d] => { results := [.lit (.bool true)], args := [d] }
  | _ => none }
def tokensListsRow : OpenClaim := { program := "ytmcajoccfbebiaa", sum := "473e1748a9188a5de271de3a368623036c3e87b7f5f379daabf93f437db34633", func := "witan/witanlaw21.TokensLists", spec := "tokensLists", unfollowed := true, recurses := true, apart := false }
def TokensListsSaid : Prop := tokensListsRow.holds Try.pinned (OpenSpec.ofChange tokensListsSpec)

/-- ITS FALSE NEIGHBOUR: 'it returns false'. Refute it at one input. -/
def tokensListsWrong : ChangeSpec := { name := "tokensLists", fn := fun _ => fun
  | [d] => { results := [.lit (.bool false)], args := [d] }
  | _ => none }
def TokensListsWrongFalsely : Prop := tokensListsRow.holds Try.pinned (OpenSpec.ofChange tokensListsWrong)

/-- 'witanlaw29.TruthLeast': WHATEVER THE INPUT: true; the input reads as it did. -/
def truthLeastSpec : ChangeSpec := { name := "truthLeast", fn := fun _ => fun
  | [d] => { results := [.lit (.bool true)], args := [d] }
  | _ => none }
def truthLeastRow : OpenClaim := { program := "ytmcajoccfbebiaa", sum := "473e1748a9188a5de271de3a368623036c3e87b7f5f379daabf93f437db34633", func := "witan/witanlaw29.TruthLeast", spec := "truthLeast", unfollowed := true, recurses := true, apart := false }
def TruthLeastSaid : Prop := truthLeastRow.holds Try.pinned (OpenSpec.ofChange truthLeastSpec)

/-- ITS FALSE NEIGHBOUR: 'it returns false'. Refute it at one input. -/
def truthLeastWrong : ChangeSpec := { name := "truthLeast", fn := fun _ => fun
  | [d] => { results := [.lit (.bool false)], args := [d] }
  | _ => none }
def TruthLeastWrongFalsely : Prop := truthLeastRow.holds Try.pinned (OpenSpec.ofChange truthLeastWrong)

/-- 'witanlaw29.TruthOrder': WHATEVER THE INPUT: true; the input reads as it did. -/
def truthOrderSpec : ChangeSpec := { name := "truthOrder", fn := fun _ => fun
  | [d1, d2] => { results := [.lit (.bool true)], args := [d1, d2] }
  | _ => none }
def truthOrderRow : OpenClaim := { program := "ytmcajoccfbebiaa", sum := "473e1748a9188a5de271de3a368623036c3e87b7f5f379daabf93f437db34633", func := "witan/witanlaw29.TruthOrder", spec := "truthOrder", unfollowed := true, recurses := true, apart := false }
def TruthOrderSaid : Prop := truthOrderRow.holds Try.pinned (OpenSpec.ofChange truthOrderSpec)

/-- ITS FALSE NEIGHBOUR: 'it returns false'. Refute it at one input. -/
def truthOrderWrong : ChangeSpec := { name := "truthOrder", fn := fun _ => fun
  | [d1, d2] => { results := [.lit (.bool false)], args := [d1, d2] }
  | _ => none }
def TruthOrderWrongFalsely : Prop := truthOrderRow.holds Try.pinned (OpenSpec.ofChange truthOrderWrong)

/-- 'witanlaw29.TruthPlays': WHATEVER THE INPUT: true; the input reads as it did. -/
def truthPlaysSpec : ChangeSpec := { name := "truthPlays", fn := fun _ => fun
  | [d1, d2] => { results := [.lit (.bool true)], args := [d1, d2] }
  | _ => none }
def truthPlaysRow : OpenClaim := { program := "ytmcajoccfbebiaa", sum := "473e1748a9188a5de271de3a368623036c3e87b7f5f379daabf93f437db34633", func := "witan/witanlaw29.TruthPlays", spec := "truthPlays", inPlace := ["maps.clone"], unfollowed := true, recurses := true, apart := false }
def TruthPlaysSaid : Prop := truthPlaysRow.holds Try.pinned (OpenSpec.ofChange truthPlaysSpec)

/-- ITS FALSE NEIGHBOUR: 'it returns false'. Refute it at one input. -/
def truthPlaysWrong : ChangeSpec := { name := "truthPlays", fn := fun _ => fun
  | [d1, d2] => { results := [.lit (.bool false)], args := [d1, d2] }
  | _ => none }
def TruthPlaysWrongFalsely : Prop := truthPlaysRow.holds Try.pinned (OpenSpec.ofChange truthPlaysWrong)

/-- 'witanlaw29.TruthNone': WHATEVER THE INPUT: true; the input reads as it did. -/
def truthNoneSpec : ChangeSpec := { name := "truthNone", fn := fun _ => fun
  | [d1, d2] => { results := [.lit (.bool true)], args := [d1, d2] }
  | _ => none }
def truthNoneRow : OpenClaim := { program := "ytmcajoccfbebiaa", sum := "473e1748a9188a5de271de3a368623036c3e87b7f5f379daabf93f437db34633", func := "witan/witanlaw29.TruthNone", spec := "truthNone", inPlace := ["maps.clone"], unfollowed := true, recurses := true, apart := false }
def TruthNoneSaid : Prop := truthNoneRow.holds Try.pinned (OpenSpec.ofChange truthNoneSpec)

/-- ITS FALSE NEIGHBOUR: 'it returns false'. Refute it at one input. -/
def truthNoneWrong : ChangeSpec := { name := "truthNone", fn := fun _ => fun
  | [d1, d2] => { results := [.lit (.bool false)], args := [d1, d2] }
  | _ => none }
def TruthNoneWrongFalsely : Prop := truthNoneRow.holds Try.pinned (OpenSpec.ofChange truthNoneWrong)

/-- 'witanlaw29.TruthMore': WHATEVER THE INPUT: true; the input reads as it did. -/
def truthMoreSpec : ChangeSpec := { name := "truthMore", fn := fun _ => fun
  | [d1, d2, d3] => { results := [.lit (.bool true)], args := [d1, d2, d3] }
  | _ => none }
def truthMoreRow : OpenClaim := { program := "ytmcajoccfbebiaa", sum := "473e1748a9188a5de271de3a368623036c3e87b7f5f379daabf93f437db34633", func := "witan/witanlaw29.TruthMore", spec := "truthMore", inPlace := ["maps.clone"], unfollowed := true, recurses := true, apart := false }
def TruthMoreSaid : Prop := truthMoreRow.holds Try.pinned (OpenSpec.ofChange truthMoreSpec)

/-- ITS FALSE NEIGHBOUR: 'it returns false'. Refute it at one input. -/
def truthMoreWrong : ChangeSpec := { name := "truthMore", fn := fun _ => fun
  | [d1, d2, d3] => { results := [.lit (.bool false)], args := [d1, d2, d3] }
  | _ => none }
def TruthMoreWrongFalsely : Prop := truthMoreRow.holds Try.pinned (OpenSpec.ofChange truthMoreWrong)

/- THE SECOND FORM. 'bulk': how many values and letters a reading holds, each counted each time it is reached (what is shared counts as often as it is met; a slice's spare places count too). A statement '..UptoSaid' is the law's where the arguments, and the package variables that the reading takes, are together of bulk at most 1048576: NARROWER than '..Said'. Prove '..Said' where nothing that the law and all that it calls make is longer than what came in: it says more and counts as full. Else prove '..UptoSaid'. A law counts once. -/
mutual
def uptoBulk {H : Type} : DataW H → Nat
  | .lit (.string bytes) => bytes.length + 1
  | .lit _ => 1
  | .nil => 1
  | .ptr d => uptoBulk d + 1
  | .slice elems spare => uptoBulkAll elems + uptoBulkAll spare + 1
  | .agg parts => uptoBulkAll parts + 1
  | .iface _ d => uptoBulk d + 1
  | .map entries => uptoBulkEntries entries + 1
  | .held _ => 1
def uptoBulkAll {H : Type} : List (DataW H) → Nat
  | [] => 0
  | d :: r => uptoBulk d + uptoBulkAll r
def uptoBulkEntries {H : Type} : List (Lit × DataW H) → Nat
  | [] => 0
  | x :: r => uptoBulkEntry x + uptoBulkEntries r
def uptoBulkEntry {H : Type} : Lit × DataW H → Nat
  | (.string bytes, d) => bytes.length + uptoBulk d + 1
  | (_, d) => uptoBulk d + 1
 end
def uptoSmall : (H : Type) → List (DataW H) → Bool := fun _ ds => decide (uptoBulkAll ds ≤ 1048576)
def OpenSpec.upto (s : _root_.Go.ChangeSpec) : _root_.Go.OpenSpec := { _root_.Go.OpenSpec.ofChange s with cond := some uptoSmall }

/-- 'witanlaw21.TokensApart', WHERE WHAT IT READS IS OF BULK AT MOST 1048576: true; the input reads as it did. -/
def tokensApartUptoRow : OpenClaim := { program := "ytmcajoccfbebiaa", sum := "473e1748a9188a5de271de3a368623036c3e87b7f5f379daabf93f437db34633", func := "witan/witanlaw21.TokensApart", spec := "tokensApart", unfollowed := true, recurses := true, apart := false, narrowed := true }
def TokensApartUptoSaid : Prop := tokensApartUptoRow.holds Try.pinned (OpenSpec.upto tokensApartSpec)

/-- 'witanlaw21.TokensTree', WHERE WHAT IT READS IS OF BULK AT MOST 1048576: true; the input reads as it did. -/
def tokensTreeUptoRow : OpenClaim := { program := "ytmcajoccfbebiaa", sum := "473e1748a9188a5de271de3a368623036c3e87b7f5f379daabf93f437db34633", func := "witan/witanlaw21.TokensTree", spec := "tokensTree", unfollowed := true, recurses := true, apart := false, narrowed := true }
def TokensTreeUptoSaid : Prop := tokensTreeUptoRow.holds Try.pinned (OpenSpec.upto tokensTreeSpec)

/-- 'witanlaw21.TokensLists', WHERE WHAT IT READS IS OF BULK AT MOST 1048576: true; the input reads as it did. -/
def tokensListsUptoRow : OpenClaim := { program := "ytmcajoccfbebiaa", sum := "473e1748a9188a5de271de3a368623036c3e87b7f5f379daabf93f437db34633", func := "witan/witanlaw21.TokensLists", spec := "tokensLists", unfollowed := true, recurses := true, apart := false, narrowed := true }
def TokensListsUptoSaid : Prop := tokensListsUptoRow.holds Try.pinned (OpenSpec.upto tokensListsSpec)

/-- 'witanlaw29.TruthLeast', WHERE WHAT IT READS IS OF BULK AT MOST 1048576: true; the input reads as it did. -/
def truthLeastUptoRow : OpenClaim := { program := "ytmcajoccfbebiaa", sum := "473e1748a9188a5de271de3a368623036c3e87b7f5f379daabf93f437db34633", func := "witan/witanlaw29.TruthLeast", spec := "truthLeast", unfollowed := true, recurses := true, apart := false, narrowed := true }
def TruthLeastUptoSaid : Prop := truthLeastUptoRow.holds Try.pinned (OpenSpec.upto truthLeastSpec)

/-- 'witanlaw29.TruthOrder', WHERE WHAT IT READS IS OF BULK AT MOST 1048576: true; the input reads as it did. -/
def truthOrderUptoRow : OpenClaim := { program := "ytmcajoccfbebiaa", sum := "473e1748a9188a5de271de3a368623036c3e87b7f5f379daabf93f437db34633", func := "witan/witanlaw29.TruthOrder", spec := "truthOrder", unfollowed := true, recurses := true, apart := false, narrowed := true }
def TruthOrderUptoSaid : Prop := truthOrderUptoRow.holds Try.pinned (OpenSpec.upto truthOrderSpec)

/-- 'witanlaw29.TruthPlays', WHERE WHAT IT READS IS OF BULK AT MOST 1048576: true; the input reads as it did. -/
def truthPlaysUptoRow : OpenClaim := { program := "ytmcajoccfbebiaa", sum := "473e1748a9188a5de271de3a368623036c3e87b7f5f379daabf93f437db34633", func := "witan/witanlaw29.TruthPlays", spec := "truthPlays", inPlace := ["maps.clone"], unfollowed := true, recurses := true, apart := false, narrowed := true }
def TruthPlaysUptoSaid : Prop := truthPlaysUptoRow.holds Try.pinned (OpenSpec.upto truthPlaysSpec)

/-- 'witanlaw29.TruthNone', WHERE WHAT IT READS IS OF BULK AT MOST 1048576: true; the input reads as it did. -/
def truthNoneUptoRow : OpenClaim := { program := "ytmcajoccfbebiaa", sum := "473e1748a9188a5de271de3a368623036c3e87b7f5f379daabf93f437db34633", func := "witan/witanlaw29.TruthNone", spec := "truthNone", inPlace := ["maps.clone"], unfollowed := true, recurses := true, apart := false, narrowed := true }
def TruthNoneUptoSaid : Prop := truthNoneUptoRow.holds Try.pinned (OpenSpec.upto truthNoneSpec)

/-- 'witanlaw29.TruthMore', WHERE WHAT IT READS IS OF BULK AT MOST 1048576: true; the input reads as it did. -/
def truthMoreUptoRow : OpenClaim := { program := "ytmcajoccfbebiaa", sum := "473e1748a9188a5de271de3a368623036c3e87b7f5f379daabf93f437db34633", func := "witan/witanlaw29.TruthMore", spec := "truthMore", inPlace := ["maps.clone"], unfollowed := true, recurses := true, apart := false, narrowed := true }
def TruthMoreUptoSaid : Prop := truthMoreUptoRow.holds Try.pinned (OpenSpec.upto truthMoreSpec)

end Rows
end Go.Proofs.Ytmcajoccfbebiaa
