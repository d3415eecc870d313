/- Slices of activations: a part of one, and one of one's own. -/
import Derived.Test.YtelgajgghgknnaaRef26
namespace Go.Proofs.Ytelgajgghgknnaa
open Go Go.RowKit Go.MapKept Go.Sort

theorem ActsIs.sub' {w : World} {b off n cap : Nat} {l : List Ac} (h : ActsIs w (.slice (some ⟨b, off, none⟩) n cap) l) {k : Nat} (hk : k < l.length) (c : Nat) : ActsIs w (.slice (some ⟨b, off + k * 3, none⟩) 1 c) [l[k]] := by
  refine ⟨by simp, .inl ⟨b, off + k * 3, c, rfl, fun i hi => ?_⟩, fun a ha => ?_⟩
  · have : i = 0 := by simpa using hi
    subst this
    obtain ⟨b', off', cap', xa, xc, e, hx, c0, c1, c2⟩ := h.at hk
    cases e
    simp only [Nat.zero_mul, Nat.add_zero, List.getElem_cons_zero]
    exact ⟨c0, by rw [hx]; exact c1, c2⟩
  · simp only [List.mem_singleton] at ha
    subst ha
    exact h.tups _ (List.getElem_mem hk)

theorem ActsIs.of_owns {B : Nat} {w : World} {v : Value} {l : List Ac} (hl : l.length ≤ 1000000) (h : w.ownsRow B 27 3 v l.length (aflat l)) (ht : ∀ a ∈ l, NIs w a.x a.tup) : ActsIs w v l := by
  refine ⟨hl, ?_, ht⟩
  rcases h.2 with ⟨rfl, h0⟩ | ⟨g, cap, cur, rfl, _⟩
  · exact .inr ⟨List.eq_nil_of_length_eq_zero h0, .inl rfl⟩
  · refine .inl ⟨g, 0, cap, rfl, fun i hi => ?_⟩
    obtain ⟨h0, h1, h2⟩ := aflat_get l i hi
    have c := h.cells (g := g) rfl
    have c0 := c _ _ h0
    have c1 := c _ _ h1
    have c2 := c _ _ h2
    simp only [Addr.add_lit] at c0 c1 c2
    refine ⟨c0, ?_, ?_⟩
    · rw [show 0 + i * 3 + 1 = 0 + (i * 3 + 1) by omega]; exact c1
    · rw [show 0 + i * 3 + 2 = 0 + (i * 3 + 2) by omega]; exact c2

theorem below_undrew {w V : World} (h : Below w.drew.heap.size w.drew V) : Below w.heap.size w V := ⟨h.os, h.tape, h.output, h.size, h.block⟩

theorem one_co (a b : Ac) : decide ([a].map Ac.co = [b].map Ac.co) = decide (a.co = b.co) := by simp
end Go.Proofs.Ytelgajgghgknnaa
