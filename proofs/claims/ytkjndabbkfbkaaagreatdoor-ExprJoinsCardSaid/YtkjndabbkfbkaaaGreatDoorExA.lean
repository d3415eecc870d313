/- Trees further on: nodes whose expressions stand further on. No program is named. -/
import Derived.Test.YtkjndabbkfbkaaaGreatDoorExL
namespace Go.Proofs.YtkjndabbkfbkaaaGreatDoor
open Go Go.Lib

/-- A node whose expressions stand further on. -/
def Nd.up (k : Nat) (n : Nd) : Nd := ⟨n.h, n.kids.map (· + k)⟩
theorem ends_up : ∀ (l : List Ex) (b c : Nat), ends l (b + c) = (ends l b).map (· + c)
  | [], _, _ => rfl
  | e :: es, b, c => by
    have h := e.size_pos
    simp only [ends, List.map_cons]
    rw [show b + c + e.size = b + e.size + c by omega, ends_up es (b + e.size) c, show b + e.size + c - 1 = b + e.size - 1 + c by omega]
mutual
theorem Ex.flat_up : ∀ (e : Ex) (b c : Nat), e.flat (b + c) = (e.flat b).map (Nd.up c)
  | .mk h ks, b, c => by
    simp only [Ex.flat, List.map_append, List.map_cons, List.map_nil]
    rw [flats_up ks b c, ends_up]
    rfl
theorem flats_up : ∀ (l : List Ex) (b c : Nat), flats l (b + c) = (flats l b).map (Nd.up c)
  | [], _, _ => rfl
  | e :: es, b, c => by
    simp only [flats, List.map_append]
    rw [Ex.flat_up e b c, show b + c + e.size = b + e.size + c by omega, flats_up es (b + e.size) c]
end
theorem Ex.flat_at (e : Ex) (c : Nat) : e.flat c = (e.flat 0).map (Nd.up c) := by
  have := e.flat_up 0 c
  rwa [Nat.zero_add] at this
/-- The nodes of two trees, and the one above both. -/
theorem flat_pair (h : Hd) (a b : Ex) : (Ex.mk h [a, b]).flat 0 = a.flat 0 ++ ((b.flat 0).map (Nd.up a.size) ++ [⟨h, [a.size - 1, a.size + b.size - 1]⟩]) := by
  rw [← Ex.flat_at]
  simp [Ex.flat, flats, ends]
end Go.Proofs.YtkjndabbkfbkaaaGreatDoor
