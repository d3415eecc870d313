/- Both agendas, side by side: what a call upon one leaves of the other. -/
import Derived.Test.YtelgajgghgknnaaPlaysLaw
import Derived.Test.YtelgajgghgknnaaOwn27
import Derived.Test.YtelgajgghgknnaaKnown27
namespace Go.Proofs.Ytelgajgghgknnaa
open Go Go.RowKit Go.MapKept Go.Sort

theorem RefIs.only {w0 w V : World} {b' : Nat} {s : Int} {vL vF : Value} {L F : List Ac} {S : List Nat} (h : RefIs w0 w b' s vL vF L F) (ho : Only S w V) (hS : ∀ k ∈ S, w0.heap.size ≤ k ∧ k ≠ b' ∧ vL.ownBlock ≠ some k ∧ vF.ownBlock ≠ some k) : RefIs w0 V b' s vL vF L F :=
  ⟨(ho.block b' (lt_of_heap h.blk) (fun hm => (hS _ hm).2.1 rfl)).trans h.blk, h.hb, below_only h.below ho (fun i hi => (hS i hi).1) h.below.size, h.lenL, h.lenF, owns_only h.rowL ho (fun k hk hm => (hS k hm).2.2.1 hk), owns_only h.rowF ho (fun k hk hm => (hS k hm).2.2.2 hk), h.tupL, h.tupF⟩
theorem AgIs.only {B b : Nat} {w V : World} {s : Int} {v : Value} {l : List En} {S : List Nat} (h : AgIs B w b s v l) (ho : Only S w V) (hS : ∀ k ∈ S, k ≠ b ∧ v.ownBlock ≠ some k ∧ ∀ e ∈ l, e.ac.x.ownBlock ≠ some k) : AgIs B V b s v l :=
  ⟨(ho.block b (lt_of_heap h.blk) (fun hm => (hS _ hm).1 rfl)).trans h.blk, h.hB, h.ens.only ho (fun k hk => (hS k hk).2.1) (fun e he k hk => (hS k hk).2.2 e he)⟩

theorem ag_ne_ref {B b b' : Nat} {w0 w : World} {s s' : Int} {v vL vF : Value} {l : List En} {L F : List Ac} (h : AgIs B w b s v l) (hR : RefIs w0 w b' s' vL vF L F) : b ≠ b' := fun e => by
  have h1 := h.blk
  rw [e, hR.blk] at h1
  simp at h1

/-- A call upon the agenda leaves the document's. -/
theorem RefIs.ag {w0 w V : World} {B b b' : Nat} {s s' : Int} {v vL vF : Value} {l : List En} {L F : List Ac} (h : RefIs w0 w b' s' vL vF L F) (hA : AgIs B w b s v l) (hB : w0.heap.size ≤ B) (ho : AgOnly b v w V) : RefIs w0 V b' s' vL vF L F :=
  h.only ho fun k hk => by
    simp only [List.mem_cons, Option.mem_toList] at hk
    rcases hk with rfl | hk
    · exact ⟨Nat.le_trans hB hA.hB, ag_ne_ref hA h, owns_not h.rowL hA.blk (by decide), owns_not h.rowF hA.blk (by decide)⟩
    · refine ⟨Nat.le_trans hB (hA.ens.own.lt _ hk).1, fun e => ?_, fun e => ?_, fun e => ?_⟩
      · subst e
        exact owns_not hA.ens.own h.blk (by decide) hk
      · exact owns_ne (by decide) h.rowL hA.ens.own e hk
      · exact owns_ne (by decide) h.rowF hA.ens.own e hk
/-- A call upon the document's leaves the agenda. -/
theorem AgIs.ref {w0 w V : World} {B b b' : Nat} {s s' : Int} {v vL vF : Value} {l : List En} {L F : List Ac} (hA : AgIs B w b s v l) (h : RefIs w0 w b' s' vL vF L F) (ho : Only [b'] w V) : AgIs B V b s v l :=
  hA.only ho fun k hk => by
    simp only [List.mem_singleton] at hk
    subst hk
    exact ⟨(ag_ne_ref hA h).symm, owns_not hA.ens.own h.blk (by decide), fun e he => owns_not (hA.ens.tups e he).2 h.blk (by decide)⟩
/-- A call upon one agenda leaves another one, whose blocks are others. -/
theorem AgIs.apart {w V : World} {B B' b c : Nat} {s s' : Int} {v v2 : Value} {l l2 : List En} (h : AgIs B w c s v2 l2) (hA : AgIs B' w b s' v l) (hcb : b ≠ c) (hv : ∀ k, v2.ownBlock = some k → v.ownBlock ≠ some k) (ho : AgOnly b v w V) : AgIs B V c s v2 l2 :=
  h.only ho fun k hk => by
    simp only [List.mem_cons, Option.mem_toList] at hk
    rcases hk with rfl | hk
    · exact ⟨hcb, owns_not h.ens.own hA.blk (by decide), fun e he => owns_not (h.ens.tups e he).2 hA.blk (by decide)⟩
    · refine ⟨fun e => ?_, fun e => hv k e hk, fun e he q => ?_⟩
      · subst e
        exact owns_not hA.ens.own h.blk (by decide) hk
      · exact owns_ne (by decide) (h.ens.tups e he).2 hA.ens.own q hk

theorem OutIs.keep {B : Nat} {w V : World} {v : Value} {l : List Ac} {S : List Nat} (h : OutIs B w v l) (ho : Only S w V) (hS : ∀ k ∈ S, k < B) : OutIs B V v l :=
  ⟨owns_only h.own ho (fun k hk hm => by have := (h.own.lt _ hk).1; have := hS k hm; omega), fun a ha => ⟨(h.tups a ha).1, owns_only (h.tups a ha).2 ho (fun k hk hm => by have := ((h.tups a ha).2.lt _ hk).1; have := hS k hm; omega)⟩⟩
theorem OutIs.acts {B : Nat} {w : World} {v : Value} {l : List Ac} (h : OutIs B w v l) (hl : l.length ≤ 1000000) : ActsIs w v l := ActsIs.of_owns hl h.own (fun a ha => NIs.of_row (h.tups a ha).1 (h.tups a ha).2)
theorem OutIs.spoils {B : Nat} {w : World} {v : Value} {l : List Ac} (h : OutIs B w v l) (hl : l.length ≤ 1000000) : Spoils B v l w :=
  ⟨fun i hi => by obtain ⟨b, off, cap, xa, xc, e, hx, _, c1, _⟩ := (h.acts hl).at hi; exact ⟨b, off, cap, xa, xc, e, hx, c1⟩, fun a ha => ⟨a.tup, (h.tups a ha).2, fun k hk => owns_ne (by decide) (h.tups a ha).2 h.own hk⟩⟩

theorem ResIs.keep {B : Nat} {w V : World} {v : Value} {l : List Ac} {S : List Nat} (h : ResIs B w v l) (ho : Only S w V) (hS : ∀ k ∈ S, k < B) : ResIs B V v l := by
  have hacts : ActsIs V v l := by
    by_cases h0 : l = []
    · subst h0
      refine ⟨by simp, .inr ⟨rfl, ?_⟩, by simp⟩
      rcases h.acts.row with ⟨b, off, cap, e, _⟩ | ⟨_, q⟩
      · exact .inr ⟨_, _, e⟩
      · exact q
    · refine acts_only h.acts ho (fun a n c e hm => ?_) (fun a ha ad n c e hm => ?_)
      · obtain ⟨a', c', e'⟩ := h.acts.form
        have hn : n = l.length := by rw [e'] at e; cases e; rfl
        have := h.fresh _ _ _ e (by rw [hn]; intro q; exact h0 (List.eq_nil_of_length_eq_zero q))
        have := hS _ hm
        omega
      · have h1 := h.tups a ha
        rcases h1.2 with ⟨q, _⟩ | ⟨g, cap, cur, q, hg, _⟩
        · rw [q] at e; cases e
        · rw [q] at e
          cases e
          have := hS _ hm
          simp only at this
          omega
  exact ⟨hacts, h.fresh, fun a ha => owns_only (h.tups a ha) ho (fun k hk hm => by have := ((h.tups a ha).lt _ hk).1; have := hS k hm; omega), h.apart, h.cap⟩

theorem tupBlocks_mem {l : List Ac} {k : Nat} : k ∈ tupBlocks l ↔ ∃ a ∈ l, a.x.ownBlock = some k := by simp [tupBlocks, List.mem_filterMap]
/-- Tuples that lie from B on are written over. -/
theorem tup_below {B : Nat} {w V : World} {l : List Ac} (h : ∀ a ∈ l, ∃ (n : Nat) (t : List Value), w.ownsRow B 3 1 a.x n t) (ho : Only (tupBlocks l) w V) (hB : B ≤ w.heap.size) : Below B w V :=
  below_only (B := B) (a := w) ⟨rfl, rfl, rfl, Nat.le_refl _, fun _ _ => rfl⟩ ho (fun i hi => by obtain ⟨a, ha, e⟩ := tupBlocks_mem.1 hi; obtain ⟨n, t, hr⟩ := h a ha; exact (hr.lt _ e).1) hB

theorem AgIs.spoil {w V : World} {B B' b : Nat} {s : Int} {v : Value} {l : List En} {S : List Ac} (h : AgIs B w b s v l) (hS : ∀ a ∈ S, ∃ (n : Nat) (t : List Value), w.ownsRow B' 3 1 a.x n t) (hsep : ∀ e ∈ l, ∀ k ∈ tupBlocks S, e.ac.x.ownBlock ≠ some k) (ho : Only (tupBlocks S) w V) : AgIs B V b s v l :=
  h.only ho fun k hk => by
    obtain ⟨a, ha, e⟩ := tupBlocks_mem.1 hk
    obtain ⟨n, t, hr⟩ := hS a ha
    refine ⟨fun q => ?_, fun q => owns_ne (by decide) h.ens.own hr q e, fun e' he' => hsep e' he' k hk⟩
    subst q
    exact owns_not hr h.blk (by decide) e
theorem RefIs.spoil {w0 w V : World} {B' b' : Nat} {s : Int} {vL vF : Value} {L F S : List Ac} (h : RefIs w0 w b' s vL vF L F) (hS : ∀ a ∈ S, ∃ (n : Nat) (t : List Value), w.ownsRow B' 3 1 a.x n t) (hB : w0.heap.size ≤ B') (ho : Only (tupBlocks S) w V) : RefIs w0 V b' s vL vF L F :=
  h.only ho fun k hk => by
    obtain ⟨a, ha, e⟩ := tupBlocks_mem.1 hk
    obtain ⟨n, t, hr⟩ := hS a ha
    refine ⟨Nat.le_trans hB (hr.lt _ e).1, fun q => ?_, fun q => owns_ne (by decide) h.rowL hr q e, fun q => owns_ne (by decide) h.rowF hr q e⟩
    subst q
    exact owns_not hr h.blk (by decide) e

/-- The script's calls are small enough to be looked at. -/
def ActD.good (g : ActD) : Prop := g.n ≤ 20
theorem ActAt.below {w V : World} {b o : Nat} {g : ActD} (h : ActAt w b o g) (hb : Below w.heap.size w V) : ActAt V b o g := by
  obtain ⟨h0, h1, h2, h3, h4⟩ := h
  have hlt := lt_of_cell h0
  exact ⟨(hb.cell (p := ⟨b, o, none⟩) hlt).trans h0, (hb.cell (p := ⟨b, o + 1, none⟩) hlt).trans h1, (hb.cell (p := ⟨b, o + 2, none⟩) hlt).trans h2, h3, fun hn => ⟨(h4 hn).1, (h4 hn).2.below hb⟩⟩
theorem ActsD.below {w V : World} {v : Value} {l : List ActD} (h : ActsD w v l) (hb : Below w.heap.size w V) : ActsD V v l := by
  refine ⟨h.1, ?_⟩
  rcases h.2 with ⟨b, off, cap, e, hi⟩ | q
  · exact .inl ⟨b, off, cap, e, fun i hil => (hi i hil).below hb⟩
  · exact .inr q
theorem ActAt.one {w : World} {g : ActD} (h : g.n ≤ 9223372036854775807) (hn : g.n ≤ 1000000 → g.t.length = g.n ∧ NIs w (.slice g.a g.n g.c) g.t) {b : Nat} {t : TypeId} (hb : w.heap[b]? = some (.cells #[.int .i64 g.r, .slice g.a g.n g.c, .int .i64 g.s] t (0, 0))) : ActsD w (.slice (some ⟨b, 0, none⟩) 1 1) [g] := by
  obtain ⟨c0, c1, c2, _⟩ := cells3a hb
  refine ⟨⟨by simp, Nat.le_refl _⟩, .inl ⟨b, 0, 1, rfl, fun i hi => ?_⟩⟩
  have : i = 0 := by simpa using hi
  subst this
  exact ⟨c0, c1, c2, h, hn⟩
end Go.Proofs.Ytelgajgghgknnaa
