/- Tokens: what TokensApart says, in plain words; two arenas. -/
import Derived.Test.YtmcajoccfbebiaaTkD
namespace Go.Proofs.Ytmcajoccfbebiaa
open Go Go.RowKit Go.MapKept

section
variable {T : List Tk} {last : Int}
theorem get_rem {n x : Int} (hx : ∀ u ∈ goneL T last n, u.id ≠ x) : getT (remT T last n) x = getT T x := by
  unfold getT remT
  rw [List.find?_filter]
  congr 1
  funext t
  by_cases e : t.id = x
  · have : isIn (goneL T last n) t.id = false := by
      cases h : isIn (goneL T last n) t.id with
      | false => rfl
      | true =>
        obtain ⟨u, hu, e2⟩ := isIn_true.1 h
        exact absurd (e2.trans e) (hx u hu)
    have h2 : (t.id == x) = true := by simpa using e
    simp [this, h2]
  · have : (t.id == x) = false := by simpa using e
    simp [this]
theorem get_gone {n x : Int} (hx : ∃ u ∈ goneL T last n, u.id = x) : getT (remT T last n) x = none := by
  obtain ⟨u, hu, rfl⟩ := hx
  exact getT_none_of fun t ht e => (rem_mem.1 ht).2 ⟨u, hu, e.symm⟩
theorem get_rem_none {n x : Int} (hx : getT T x = none) : getT (remT T last n) x = none :=
  getT_none_of fun t ht e => getT_none hx t (rem_mem.1 ht).1 e
theorem TreeOk.chain_rem (h : TreeOk T last) (n : Int) : ∀ (m : Nat) (x : Int), (∀ u ∈ goneL T last n, u.id ≠ x) → chain (remT T last n) m x = chain T m x
  | 0, _, _ => rfl
  | m + 1, x, hx => by
    unfold chain
    rw [get_rem hx]
    cases hg : getT T x with
    | none => rfl
    | some t =>
      obtain ⟨ht, e⟩ := getT_some hg
      obtain ⟨g1, g2, g3⟩ := h.gone n
      simp only
      rw [TreeOk.chain_rem h n m t.parent fun u hu e2 => ?_]
      by_cases h0 : t.id = 0
      · have := h.lt t ht
        have := (h.ge u (g1 u hu).1).1
        omega
      · exact hx t (g3 t ht h0 ⟨u, hu, e2⟩) e
theorem TreeOk.tup_rem (h : TreeOk T last) (n x : Int) (hx : ∀ u ∈ goneL T last n, u.id ≠ x) : tupT (remT T last n) last x = tupT T last x := by
  unfold tupT
  rw [h.chain_rem n _ x hx]
theorem TreeOk.add_zero (h : TreeOk T last) : ∃ T', addT T last 0 1 1 = some T' := by
  have hg : (getT T 0).isSome = true := by
    rw [show getT T 0 = some zeroTk from h.get h.zero]
    rfl
  exact ⟨_, by unfold addT; rw [hg]; rfl⟩
end
/-- Two arenas, the second one's blocks behind those of the first one. -/
structure Two21 (w V1 V : World) (A B : Ar) (T T2 : List Tk) (last : Int) (k : Nat) : Prop where
  a : ASt w V A T last k
  b : ASt V1 V B T2 last k
  lo : ∀ q, A.foot q → q < V1.heap.size
  le : w.heap.size ≤ V1.heap.size
section
variable {w V1 V V' : World} {A B : Ar} {T T2 : List Tk} {last : Int} {k : Nat}
theorem Two21.below (h : Two21 w V1 V A B T T2 last k) (hb : Below V.heap.size V V') : Two21 w V1 V' A B T T2 last k := ⟨h.a.below' hb, h.b.below' hb, h.lo, h.le⟩
theorem Two21.other {S : List Nat} (h : Two21 w V1 V A B T T2 last k) (ho : Only S V V') (hS : ∀ q ∈ S, V1.heap.size ≤ q ∧ ¬ B.foot q) : Two21 w V1 V' A B T T2 last k :=
  ⟨h.a.other ho fun q hq => ⟨fun r => by have := h.lo q r; have := (hS q hq).1; omega, by have := (hS q hq).1; have := h.le; omega⟩, h.b.other ho fun q hq => ⟨(hS q hq).2, (hS q hq).1⟩, h.lo, h.le⟩
theorem Two21.stepB {B' : Ar} {T2' : List Tk} (h : Two21 w V1 V A B T T2 last k) (hto : ATo V V' B B') (hb : ASt V1 V' B' T2' last k) : Two21 w V1 V' A B' T T2' last k :=
  ⟨h.a.other hto.only fun q hq => ⟨fun r => by have := h.lo q r; have := h.b.foot q (Ar.mem_all.1 hq); omega, by have := h.b.foot q (Ar.mem_all.1 hq); have := h.le; omega⟩, hb, h.lo, h.le⟩
end
/-- Which numbers are marked. -/
def markP (l : List Int) : List (Int × Value) → Prop := fun G => ∀ x, look G x = if x ∈ l then some (.int .i64 1) else none
theorem look_put (G : List (Int × Value)) (k x : Int) (v : Value) : look (put G k v) x = if x = k then some v else look G x := by
  induction G with
  | nil =>
    unfold put look
    by_cases e : x = k
    · subst e; simp
    · have : (k == x) = false := by simpa using fun q : k = x => e q.symm
      simp [this, e]
  | cons p G ih =>
    unfold put
    by_cases hp : p.1 = k
    · rw [if_pos hp]
      unfold look
      by_cases e : x = k
      · subst e; simp
      · have h1 : (k == x) = false := by simpa using fun q : k = x => e q.symm
        have h2 : (p.1 == x) = false := by rw [hp]; exact h1
        simp [h1, h2, e]
    · rw [if_neg hp]
      unfold look at ih ⊢
      simp only [List.find?_cons]
      by_cases e : p.1 = x
      · have h1 : (p.1 == x) = true := by simpa using e
        have : ¬ x = k := fun q => hp (e.trans q)
        simp [h1, this]
      · have h1 : (p.1 == x) = false := by simpa using e
        simp only [h1]
        exact ih
theorem markP_put {l : List Int} {G : List (Int × Value)} (h : markP l G) (i : Int) : markP (l ++ [i]) (put G i (.int .i64 1)) := by
  intro x
  rw [look_put, h x]
  by_cases e : x = i
  · subst e; simp
  · simp [e]
end Go.Proofs.Ytmcajoccfbebiaa
