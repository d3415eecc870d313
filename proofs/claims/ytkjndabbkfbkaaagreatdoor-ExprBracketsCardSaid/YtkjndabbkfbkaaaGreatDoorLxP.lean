/- All words of a source: fuel; two sources with a line end between. No program is named. -/
import Derived.Test.YtkjndabbkfbkaaaGreatDoorLxO
namespace Go.Proofs.YtkjndabbkfbkaaaGreatDoor
open Go Go.Lib

theorem spanL_pos {q : UInt8 → Bool} {c : UInt8} {r : List UInt8} (h : q c = true) : 1 ≤ spanL q (c :: r) := by
  rw [spanL_cons h]; omega
theorem lexGo_fuel : ∀ (f g : Nat) (l : List UInt8) (a b : Int), l.length ≤ f → l.length ≤ g → lexGo f l a b = lexGo g l a b
  | 0, g, l, a, b, hf, _ => by
    obtain rfl : l = [] := List.eq_nil_of_length_eq_zero (by omega)
    cases g with
    | zero => rfl
    | succ g => rfl
  | f + 1, g, l, a, b, hf, hg => by
    cases l with
    | nil => cases g <;> rfl
    | cons c r =>
      obtain ⟨g, rfl⟩ : ∃ k, g = k + 1 := ⟨g - 1, by rw [List.length_cons] at hg; omega⟩
      rw [List.length_cons] at hf hg
      unfold lexGo
      simp only
      rw [lexGo_fuel f g r (a + 1) 1 (by omega) (by omega), lexGo_fuel f g r a (b + 1) (by omega) (by omega)]
      by_cases h1 : c = 10
      · rw [if_pos h1, if_pos h1]
      rw [if_neg h1, if_neg h1]
      by_cases h2 : c = 59
      · rw [if_pos h2, if_pos h2]
        have := spanL_pos (q := fun c => c != 10) (c := c) (r := r) (by simpa using h1)
        exact lexGo_fuel f g _ _ _ (by rw [List.length_drop, List.length_cons]; omega) (by rw [List.length_drop, List.length_cons]; omega)
      rw [if_neg h2, if_neg h2]
      by_cases h3 : c = 32
      · rw [if_pos h3, if_pos h3]
      rw [if_neg h3, if_neg h3]
      cases hw : wordL (c :: r) with
      | error e => rfl
      | ok p =>
        obtain ⟨w, n⟩ := p
        obtain ⟨h4, _⟩ := wordL_len hw
        simp only
        rw [lexGo_fuel f g ((c :: r).drop n) a (b + n) (by rw [List.length_drop, List.length_cons]; omega) (by rw [List.length_drop, List.length_cons]; omega)]
end Go.Proofs.YtkjndabbkfbkaaaGreatDoor
