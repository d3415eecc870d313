/- What of the truth's book and of the document's outlives a change: blocks that neither has; what the document's calls turn. -/
import Derived.Test.YtmcajoccfbebiaaRT5
import Derived.Test.YtmcajoccfbebiaaRT4
import Derived.Test.YtmcajoccfbebiaaTrK
namespace Go.Proofs.Ytmcajoccfbebiaa
open Go Go.RowKit Go.MapKept Go.Sort

theorem AvV.own2 {A : Nat → Prop} {w : World} {B n s : Nat} {t : TypeId} {v : Value} {xs : List Value} (h : w.ownsRow B t s v n xs) (hA : ∀ k, B ≤ k → k < w.heap.size → A k) : AvV A v := fun a n c e => by
  subst e
  rcases h.2 with ⟨q, _⟩ | ⟨g, cap, cur, q, hb, hg, _⟩
  · cases q
  · cases q
    exact hA _ hb (lt_of_heap hg)
def AvS (A : Nat → Prop) (p : Sp) : Prop := AvV A p.v ∧ ∀ j ∈ p.js, AvV A j.x
def AvB (A : Nat → Prop) (M : List Sp) : Prop := ∀ p ∈ M, AvS A p
theorem AvS.nil (A : Nat → Prop) (id : Int) (p : Bool) : AvS A ⟨id, p, [], .slice none 0 0⟩ := ⟨AvV.none A 0 0, by simp⟩
theorem AvB.getD {A : Nat → Prop} {M : List Sp} (h : AvB A M) (id : Int) : AvS A (getD M id) := by
  unfold Go.Proofs.Ytmcajoccfbebiaa.getD getS
  cases e : M.find? fun p => p.id == id with
  | none => exact AvS.nil A id false
  | some p => exact h p (List.mem_of_find?_eq_some e)
theorem AvB.put {A : Nat → Prop} {M : List Sp} {q : Sp} (h : AvB A M) (hq : AvS A q) : AvB A (putS M q) := fun p hp => by
  rcases mem_putS hp with rfl | hp
  · exact hq
  · exact h p hp
theorem AvB.drop {A : Nat → Prop} {M : List Sp} (h : AvB A M) (id : Int) : AvB A (dropS M id) := fun p hp => h p (List.mem_filter.1 hp).1
theorem AvB.mono {A A' : Nat → Prop} {M : List Sp} (h : AvB A M) (e : ∀ k, A k → A' k) : AvB A' M := fun p hp => ⟨fun a n c q => e _ ((h p hp).1 a n c q), fun j hj a n c q => e _ ((h p hp).2 j hj a n c q)⟩
theorem OfIs.av {A : Nat → Prop} {B : Nat} {w : World} {v : Value} {js : List Jc} (h : OfIs B w v js) (hA : ∀ k, B ≤ k → A k) {id : Int} {p : Bool} : AvS A ⟨id, p, js, v⟩ := ⟨AvV.own h.own hA, fun j hj => AvV.own (h.tups j hj).2 hA⟩

/-- A book outlives what turns blocks that it has not. -/
theorem JsIs.apart {w V : World} {S : List Nat} {v : Value} {js : List Jc} (h : JsIs w v js) (ho : Only S w V) (hv : AvV (· ∉ S) v) (hx : ∀ j ∈ js, AvV (· ∉ S) j.x) : JsIs V v js := by
  refine ⟨h.len, ?_, fun j hj => nis_only (h.tups j hj) ho (hx j hj), h.cap⟩
  rcases h.row with ⟨b, off, cap, rfl, hi⟩ | q
  · have hb : b ∉ S := hv ⟨b, off, none⟩ _ _ rfl
    exact .inl ⟨b, off, cap, rfl, fun i hil => ⟨(ho.cell (p := ⟨b, off + i * 2, none⟩) (lt_of_cell (hi i hil).1) hb).trans (hi i hil).1, (ho.cell (p := ⟨b, off + i * 2 + 1, none⟩) (lt_of_cell (hi i hil).2) hb).trans (hi i hil).2⟩⟩
  · exact .inr q
theorem BookIs.apart {w V : World} {S : List Nat} {b m : Nat} {M : List Sp} (h : BookIs w b m M) (ho : Only S w V) (ha : AvB (· ∉ S) M) (hb : b ∉ S) (hm : m ∉ S) : BookIs V b m M :=
  ⟨(ho.block b (lt_of_heap h.blk) hb).trans h.blk, h.map.only ho hm, fun p hp => (h.js p hp).apart ho (ha p hp).1 (ha p hp).2, h.wf, h.len⟩
theorem RefB.apart {w V : World} {S : List Nat} {B r : Nat} {v : Value} {L : List Sp} (h : RefB B w r v L) (ho : Only S w V) (hv : AvV (· ∉ S) v) (ha : AvB (· ∉ S) L) (hr : r ∉ S) : RefB B V r v L := by
  have hk : ∀ {t : TypeId} {s n : Nat} {u : Value} {xs : List Value}, AvV (· ∉ S) u → w.ownsRow B t s u n xs → V.ownsRow B t s u n xs := fun hu ho2 => owns_only ho2 ho fun k hk => by
    rcases ho2.2 with ⟨rfl, _⟩ | ⟨g, cap, cur, rfl, _⟩
    · cases hk
    · simp only [Value.ownBlock, Option.some.injEq] at hk
      subst hk
      exact hu ⟨_, 0, none⟩ _ _ rfl
  exact ⟨(ho.block r (lt_of_heap h.blk) hr).trans h.blk, h.hB, hk hv h.row, fun p hp => ⟨(h.js p hp).1, hk (ha p hp).1 (h.js p hp).2.own, fun j hj => ⟨((h.js p hp).2.tups j hj).1, hk ((ha p hp).2 j hj) ((h.js p hp).2.tups j hj).2⟩⟩, h.len, h.asc⟩

/-- A book of truth outlives the document's calls. -/
theorem NIs.ronly {w V : World} {B r : Nat} {x : Value} {l : List Int} (h : NIs w x l) (ho : ROnly B r w V) : NIs V x l := by
  obtain ⟨hl, ⟨b, off, cap, rfl, hi⟩ | h⟩ := h
  · exact ⟨hl, .inl ⟨b, off, cap, rfl, fun i hil => ho.ints _ _ (hi i hil)⟩⟩
  · exact ⟨hl, .inr h⟩
theorem JsIs.ronly {w V : World} {B r : Nat} {v : Value} {js : List Jc} (h : JsIs w v js) (ho : ROnly B r w V) : JsIs V v js := by
  refine ⟨h.len, ?_, fun j hj => (h.tups j hj).ronly ho, h.cap⟩
  rcases h.row with ⟨b, off, cap, rfl, hi⟩ | q
  · refine .inl ⟨b, off, cap, rfl, fun i hil => ⟨ho.ints _ _ (hi i hil).1, ?_⟩⟩
    obtain ⟨xa, xc, hx⟩ := (h.tups _ (List.getElem_mem hil)).form
    have h2 := (hi i hil).2
    rw [hx] at h2 ⊢
    exact ho.pairs _ _ _ _ _ _ (hi i hil).1 h2
  · exact .inr q
theorem BookIs.ronly {w V : World} {B r b m : Nat} {M : List Sp} (h : BookIs w b m M) (ho : ROnly B r w V) (hb : b ≠ r) (hm : m ≠ r) : BookIs V b m M := by
  obtain ⟨es, c, h1, h2, h3⟩ := h.map
  refine ⟨(ho.block b (lt_of_heap h.blk) hb (.inr fun cs fr q => ?_)).trans h.blk, ⟨es, c, (ho.block m (lt_of_heap h1) hm (.inr fun cs fr q => ?_)).trans h1, h2, h3⟩, fun p hp => (h.js p hp).ronly ho, h.wf, h.len⟩
  · rw [h.blk] at q
    cases q
  · rw [h1] at q
    cases q
/-- The document's book outlives what turns a map alone. -/
theorem RefB.map {w V : World} {B r m : Nat} {v : Value} {L : List Sp} {l : List (Int × Value)} (h : RefB B w r v L) (hm : IMap w m l) (ho : Only [m] w V) : RefB B V r v L := by
  obtain ⟨es, c, h1, _⟩ := hm
  have hk : ∀ {t : TypeId} {s n : Nat} {u : Value} {xs : List Value}, w.ownsRow B t s u n xs → V.ownsRow B t s u n xs := fun ho2 => owns_only ho2 ho fun k hk hm => by
    simp only [List.mem_singleton] at hm
    subst hm
    rcases ho2.2 with ⟨rfl, _⟩ | ⟨g, cap, cur, rfl, _, hg, _⟩
    · cases hk
    · simp only [Value.ownBlock, Option.some.injEq] at hk
      subst hk
      rw [h1] at hg
      cases hg
  refine ⟨(ho.block r (lt_of_heap h.blk) (by
    simp only [List.mem_singleton]
    rintro rfl
    have := h.blk
    rw [h1] at this
    cases this)).trans h.blk, h.hB, hk h.row, fun p hp => ⟨(h.js p hp).1, hk (h.js p hp).2.own, fun j hj => ⟨((h.js p hp).2.tups j hj).1, hk ((h.js p hp).2.tups j hj).2⟩⟩, h.len, h.asc⟩
end Go.Proofs.Ytmcajoccfbebiaa
