/- MemoryPlays: what was handed in is written over. -/
import Derived.Test.YteealadflekffaaRMC
namespace Go.Proofs.Yteealadflekffaa
open Go Go.RowKit Go.MapKept

theorem Pair.far {w0 w : World} {n b mm r c g k : Nat} {a : Option Addr} {M G : Mm} {u : Value} (h : Pair w0 w n b mm r c a M G) (hg : w0.heap.size ≤ g) (hf : ¬ MFoot b mm M g ∧ ¬ RefFoot r a G g) : Pair w0 (w.setCell ⟨g, k, none⟩ u) n b mm r c a M G :=
  ⟨h.two.other (S := [g]) ((Only.refl _ _).setCell (.inl (by simp)) _) (by simpa using hf), h.alike, h.okM, h.okG, h.last, h.hb, h.below.setCell hg _⟩
theorem Round.poke {w : World} {X g n c k : Nat} {o : OpD} {vin : Value} {b mm r : Nat} {a : Option Addr} {M G : Mm} (h : Round w X o vin b mm r a M G) (hv : vin = .slice (some ⟨g, 0, none⟩) n c) (z : Int) : Round (w.setCell ⟨g, k * 3 + 1, none⟩ (.int .i64 z)) X o vin b mm r a M G := by
  obtain ⟨s', e, ho⟩ := h.own
  obtain ⟨s2, e2, o2⟩ := ho.poke g k z
  have hg := (World.ownsRow.lt ho g (by rw [hv]; rfl)).1
  exact ⟨(Below.heap_setCell _ _ _ _ (show X ≠ g by omega)).trans h.box, ⟨s2, e2.trans e, o2⟩, h.far⟩
end Go.Proofs.Yteealadflekffaa
