/- An argument that is a slice of int, opened. -/
import Derived.Test.YtmcajoccfbebiaaArgs0
import Derived.Test.YtmcajoccfbebiaaNis
namespace Go.Proofs.Ytmcajoccfbebiaa
open Go Go.ChangeShapes Go.WideShapes Go.ChangeAt Go.RowKit Go.Deep

set_option maxRecDepth 100000 in
theorem open_ints0 {H : Type} {enc : TypeId × Value → H} {w : World} {base : Nat} {spare : Nat → Bool} {held : Bool} {fuel : Nat} {v : Value} {x : DataW H × List MemPlace}
    (h : DataW.trod enc Try.prog w base spare held fuel 36 [v] = some x) : ∃ a n c, v = .slice a n c ∧ n ≤ 9223372036854775807 ∧ (n ≤ 1000000 → ∃ l, l.length = n ∧ NIs w v l) := by
  rcases open_slice Try.underlying36 h with ⟨hc, _⟩ | ⟨a, len, cap, m, n, D, Pl, hc, hb, hle, hcap, hm, _, hi⟩
  · simp only [List.cons.injEq, and_true] at hc
    subst hc
    exact ⟨none, 0, 0, rfl, by omega, fun _ => ⟨[], rfl, by simp, .inr ⟨rfl, .inl rfl⟩⟩⟩
  · simp only [List.cons.injEq, and_true] at hc
    subst hc
    unfold maxLen at hcap
    refine ⟨some a, len, cap, rfl, by omega, fun hn => ?_⟩
    have hml : len ≤ m := by rw [hm]; split <;> omega
    have hcells : ∀ i, i < len → ∃ z : Int, w.cell? (a.add i) = some (.int .i64 z) := by
      intro i hil
      obtain ⟨cs', hcs, ht⟩ := hi i (by omega)
      rw [show Try.prog.cellsOf 3 = 1 from by kernel_rfl] at hcs
      obtain ⟨z, e0, _, _⟩ := DataW.trod_int Try.underlying3 ht
      obtain ⟨_, hcl, hat⟩ := World.cells?_some hcs
      have := hat 0 (by omega)
      subst e0
      exact ⟨z, by simpa [Addr.add] using this⟩
    obtain ⟨l, hl, hp⟩ := exists_list _ len hcells
    refine ⟨l, hl, by omega, ?_⟩
    by_cases h0 : len = 0
    · subst h0
      exact .inr ⟨List.eq_nil_of_length_eq_zero hl, .inr ⟨a, cap, rfl⟩⟩
    · have hs := spot_none (by simpa [Addr.add] using hp 0 (by omega))
      refine .inl ⟨a.block, a.off, cap, by rw [hl]; exact congrArg (fun q => Value.slice (some q) len cap) hs, fun i hil => ?_⟩
      have := hp i hil
      rw [hs] at this
      simpa only [Addr.add_lit] using this

set_option maxRecDepth 100000 in
theorem open_ints {H : Type} {enc : TypeId × Value → H} {w : World} {base : Nat} {spare : Nat → Bool} {held : Bool} {v : Value} {d : DataW H} {p : List MemPlace} {r : Reach} {b0 : Nat}
    (hv : Value.okWide Try.prog w r b0 36 v) (h : DataW.Trod enc Try.prog w base spare held 36 v d p) : ∃ a n c, v = .slice a n c ∧ n ≤ 9223372036854775807 ∧ (n ≤ 1000000 → ∃ l, l.length = n ∧ NIs w v l) := by
  obtain ⟨a', n', c', rfl⟩ := okWide_slice Try.underlying36 hv
  obtain ⟨fuel, h⟩ := h
  exact open_ints0 h
end Go.Proofs.Ytmcajoccfbebiaa
