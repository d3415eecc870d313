/- What is told may be written over: the number of a value, in a row of one's own. -/
import Derived.Test.YteealadflekffaaRM5
namespace Go.Proofs.Yteealadflekffaa
open Go Go.RowKit Go.MapKept

def poke : List Vl → Nat → Int → List Vl
  | [], _, _ => []
  | v :: l, 0, z => ⟨v.k, z, v.s⟩ :: l
  | v :: l, k + 1, z => v :: poke l k z
theorem poke_len : ∀ (l : List Vl) (k : Nat) (z : Int), (poke l k z).length = l.length
  | [], _, _ => rfl
  | _ :: _, 0, _ => rfl
  | _ :: l, k + 1, z => by simp [poke, poke_len l k z]
theorem flat_poke : ∀ (l : List Vl) (k : Nat) (z : Int), (flat l).set (k * 3 + 1) (.int .i64 z) = flat (poke l k z)
  | [], _, _ => rfl
  | _ :: _, 0, _ => rfl
  | v :: l, k + 1, z => by
    rw [show (k + 1) * 3 + 1 = k * 3 + 1 + 3 by omega]
    simp only [flat, poke, List.set_cons_succ]
    rw [flat_poke l k z]

theorem OwnV.poke {w : World} {B : Nat} {x : Value} {s : List Vl} (h : OwnV w B x s) (g k : Nat) (z : Int) : ∃ s', s'.length = s.length ∧ OwnV (w.setCell ⟨g, k * 3 + 1, none⟩ (.int .i64 z)) B x s' := by
  have hl := h.1
  rcases h.2 with ⟨rfl, hn⟩ | ⟨g', cap, cur, rfl, hb, hg, h1, h2, h3, h4⟩
  · exact ⟨s, rfl, hl, .inl ⟨rfl, hn⟩⟩
  · by_cases hgg : g' = g
    · subst hgg
      refine ⟨Go.Proofs.Yteealadflekffaa.poke s k z, poke_len s k z, by rw [flat_length, poke_len], .inr ⟨g', cap, cur.setIfInBounds (k * 3 + 1) (.int .i64 z), by rw [poke_len], hb, setCell_heap hg, by rw [poke_len]; exact h1, h2, by simpa using h3, ?_⟩⟩
      rw [Array.toList_setIfInBounds, poke_len, List.take_set, h4, flat_poke]
    · exact ⟨s, rfl, hl, .inr ⟨g', cap, cur, rfl, hb, (Below.heap_setCell _ _ _ _ hgg).trans hg, h1, h2, h3, h4⟩⟩
theorem OwnV.at {w : World} {B : Nat} {x : Value} {s : List Vl} (h : OwnV w B x s) {k : Nat} (hk : k < s.length) : ∃ g c z, x = .slice (some ⟨g, 0, none⟩) s.length c ∧ B ≤ g ∧ g < w.heap.size ∧ w.cell? ⟨g, k * 3 + 1, none⟩ = some (.int .i64 z) ∧ w.frozen? ⟨g, k * 3 + 1, none⟩ = false := by
  have h' := h
  rcases h.2 with ⟨_, hn⟩ | ⟨g, cap, cur, rfl, hb, hg, _⟩
  · omega
  · have hc := World.ownsRow.cells h' (g := g) rfl (k * 3 + 1) _ (flat_get s k hk).2.1
    rw [Addr.add_lit, Nat.zero_add] at hc
    exact ⟨g, cap, _, rfl, hb, lt_of_heap hg, hc, by simp [World.frozen?, hg]⟩

/-- Facts that were told: the row's cells stand; each one's values are a row of that length. -/
structure SpF (w : World) (B : Nat) (v : Value) (out : List Fc) : Prop where
  own : w.ownsRow B 34 3 v out.length (fflat out)
  vals : ∀ f ∈ out, ∃ s', s'.length = f.s.length ∧ OwnV w B f.x s'
theorem FactsO.sp {w : World} {B : Nat} {v : Value} {out : List Fc} (h : FactsO w B v out) : SpF w B v out := ⟨h.own, fun f hf => ⟨f.s, rfl, h.vals f hf⟩⟩
theorem own_any_below {w w' : World} {B : Nat} {e : TypeId} {k n : Nat} {v : Value} {xs : List Value} (h : w.ownsRow B e k v n xs) (hb : Below w.heap.size w w') : w'.ownsRow B e k v n xs := own_below h hb
theorem SpF.below {w w' : World} {B : Nat} {v : Value} {out : List Fc} (h : SpF w B v out) (hb : Below w.heap.size w w') : SpF w' B v out :=
  ⟨own_below h.own hb, fun f hf => by obtain ⟨s', e, o⟩ := h.vals f hf; exact ⟨s', e, own_below o hb⟩⟩
theorem SpF.poke {w : World} {B : Nat} {v : Value} {out : List Fc} (h : SpF w B v out) {f : Fc} (hf : f ∈ out) {g n c : Nat} (hx : f.x = .slice (some ⟨g, 0, none⟩) n c) (k : Nat) (z : Int) : SpF (w.setCell ⟨g, k * 3 + 1, none⟩ (.int .i64 z)) B v out := by
  refine ⟨owns_only (S := [g]) h.own ((Only.refl _ _).setCell (.inl (by simp)) _) fun b hb hm => ?_, fun f' hf' => ?_⟩
  · obtain ⟨s', _, o⟩ := h.vals f hf
    rcases own_apart tne h.own o with q | q
    · rw [hx] at q
      cases q
    · rw [hx, hb] at q
      simp only [List.mem_singleton] at hm
      subst hm
      exact q rfl
  · obtain ⟨s', e, o⟩ := h.vals f' hf'
    obtain ⟨s2, e2, o2⟩ := o.poke g k z
    exact ⟨s2, e2.trans e, o2⟩
theorem SpF.row {w : World} {B : Nat} {v : Value} {out : List Fc} (h : SpF w B v out) {i : Nat} (hi : i < out.length) : ∃ b cap, v = .slice (some ⟨b, 0, none⟩) out.length cap ∧ w.cell? ⟨b, i * 3 + 2, none⟩ = some out[i].x := by
  have h' := h.own
  rcases h.own.2 with ⟨_, hn⟩ | ⟨g, cap, cur, rfl, hb, hg, _⟩
  · omega
  · have hc := World.ownsRow.cells h' (g := g) rfl (i * 3 + 2) _ (fflat_get out i hi).2.2
    rw [Addr.add_lit, Nat.zero_add] at hc
    exact ⟨g, cap, rfl, hc⟩
theorem SpF.form {w : World} {B : Nat} {v : Value} {out : List Fc} (h : SpF w B v out) : ∃ a c, v = .slice a out.length c := own_form h.own
end Go.Proofs.Yteealadflekffaa
