/- vtext (the document's): digits, the plain law. -/
import Derived.Test.YtgfakdobajgnfaaGreatDoorVtL
import Derived.Test.YtgfakdobajgnfaaGreatDoorDg
namespace Go.Proofs.YtgfakdobajgnfaaGreatDoor
open Go Go.Lib

/-- A number's decimals, so many at least (none of nought, where none are wanted). -/
def padD (n k : Nat) : List UInt8 := if n = 0 then List.replicate k 48 else List.replicate (k - (decDigits n).length) 48 ++ decDigits n
theorem padD_zero : padD 0 0 = [] := rfl
theorem decDigits_pos (n : Nat) : 1 ≤ (decDigits n).length := by
  have := decDigits_ne n
  cases h : decDigits n with
  | nil => exact absurd h this
  | cons => simp
theorem padD_step {n k : Nat} (h : 0 < n ∨ 0 < k) : padD n k = padD (n / 10) (k - 1) ++ [UInt8.ofNat (48 + n % 10)] := by
  by_cases hn : n = 0
  · subst hn
    obtain ⟨m, rfl⟩ : ∃ m, k = m + 1 := ⟨k - 1, by omega⟩
    simp only [padD, if_true, Nat.zero_div, Nat.add_sub_cancel, Nat.zero_mod, Nat.add_zero]
    rw [List.replicate_succ']
    rfl
  · by_cases h10 : n < 10
    · have e1 : n / 10 = 0 := by omega
      have e2 : n % 10 = n := by omega
      rw [padD, if_neg hn, e1, e2, padD, if_pos rfl, decDigits_small h10]
      rfl
    · have e1 : n / 10 ≠ 0 := by omega
      rw [padD, if_neg hn, padD, if_neg e1, decDigits_big h10, List.length_append, ← List.append_assoc]
      simp only [List.length_cons, List.length_nil]
      rw [show k - ((decDigits (n / 10)).length + (0 + 1)) = k - 1 - (decDigits (n / 10)).length by omega]
theorem padD_one (n : Nat) : padD n 1 = decDigits n := by
  unfold padD
  split
  · next h => subst h; rw [decDigits_small (by omega)]; rfl
  · have := decDigits_pos n
    rw [show 1 - (decDigits n).length = 0 by omega]
    rfl
theorem padD_five (n : Nat) : padD n 5 = pad5 (decDigits n) := by
  unfold padD pad5
  split
  · next h => subst h; rw [decDigits_small (by omega)]; rfl
  · rfl
theorem padD_len (n k : Nat) : (padD n k).length ≤ k + (decDigits n).length := by
  unfold padD
  split
  · simp
  · simp <;> omega
theorem padD_more {n k : Nat} {s D : List UInt8} (h : D = padD n k ++ s) (hp : 0 < n ∨ 0 < k) : D = padD (n / 10) (k - 1) ++ (UInt8.ofNat (48 + n % 10) :: s) ∧ s.length + 1 ≤ D.length := by
  rw [padD_step hp, List.append_assoc] at h
  refine ⟨h, ?_⟩
  rw [h]
  simp
end Go.Proofs.YtgfakdobajgnfaaGreatDoor
