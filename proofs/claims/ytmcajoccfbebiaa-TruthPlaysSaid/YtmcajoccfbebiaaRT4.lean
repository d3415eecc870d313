/- witanref29's Book: what its calls may turn; Plain. -/
import Derived.Test.YtmcajoccfbebiaaRT3
namespace Go.Proofs.Ytmcajoccfbebiaa
open Go Go.RowKit Go.MapKept Go.Sort

/-- Only block r, and blocks of Row, may have turned; integers stay, and slices right behind integers. -/
structure ROnly (B r : Nat) (w w' : World) : Prop where
  os : w'.os = w.os
  tape : w'.tape = w.tape
  output : w'.output = w.output
  size : w.heap.size ≤ w'.heap.size
  block : ∀ k, k < w.heap.size → k ≠ r → k < B ∨ (∀ cs fr, w.heap[k]? ≠ some (.cells cs 111 fr)) → w'.heap[k]? = w.heap[k]?
  ints : ∀ p z, w.cell? p = some (.int .i64 z) → w'.cell? p = some (.int .i64 z)
  pairs : ∀ b o z a n c, w.cell? ⟨b, o, none⟩ = some (.int .i64 z) → w.cell? ⟨b, o + 1, none⟩ = some (.slice a n c) → w'.cell? ⟨b, o + 1, none⟩ = some (.slice a n c)
theorem blk1_int {w : World} {r : Nat} {v : Value} {t : TypeId} (hb : w.heap[r]? = some (.cells #[v] t (0, 0))) (hv : ∀ z, v ≠ .int .i64 z) {p : Addr} {z : Int} (h : w.cell? p = some (.int .i64 z)) : p.block ≠ r := by
  rintro rfl
  unfold World.cell? at h
  rw [hb] at h
  simp only at h
  split at h
  · cases h
  · obtain ⟨hi, e⟩ := Array.getElem?_eq_some_iff.1 h
    have : p.off = 0 := by simp at hi; exact hi
    simp only [this] at e
    exact hv z e
theorem ROnly.of_only {B r : Nat} {w w' : World} {v : Value} {t : TypeId} (hb : w.heap[r]? = some (.cells #[v] t (0, 0))) (hv : ∀ z, v ≠ .int .i64 z) (h : Only [r] w w') : ROnly B r w w' :=
  ⟨h.os, h.tape, h.output, h.size, fun k hk hr _ => h.block k hk (by simpa using hr), fun _ _ hp => (h.cell (lt_of_cell hp) (by simpa using blk1_int hb hv hp)).trans hp,
    fun _ _ _ _ _ _ h1 h2 => (h.cell (lt_of_cell h2) (by simpa using blk1_int hb hv h1)).trans h2⟩
theorem ROnly.of_below {B r : Nat} {w w' : World} (h : Below w.heap.size w w') : ROnly B r w w' :=
  ⟨h.os, h.tape, h.output, h.size, fun k hk _ _ => h.block k hk, fun _ _ hp => (h.cell (lt_of_cell hp)).trans hp, fun _ _ _ _ _ _ _ h2 => (h.cell (lt_of_cell h2)).trans h2⟩
theorem ROnly.refl (B r : Nat) (w : World) : ROnly B r w w := ⟨rfl, rfl, rfl, Nat.le_refl _, fun _ _ _ _ => rfl, fun _ _ h => h, fun _ _ _ _ _ _ _ h => h⟩
theorem ROnly.trans {B r : Nat} {a b c : World} (h : ROnly B r a b) (k : ROnly B r b c) : ROnly B r a c :=
  ⟨k.os.trans h.os, k.tape.trans h.tape, k.output.trans h.output, Nat.le_trans h.size k.size, fun i hi hr ht => by
    have e := h.block i hi hr ht
    exact (k.block i (Nat.lt_of_lt_of_le hi h.size) hr (ht.imp id fun ht cs fr q => ht cs fr (e.symm.trans q))).trans e, fun p z hp => k.ints p z (h.ints p z hp),
    fun b o z x n c h1 h2 => k.pairs b o z x n c (h.ints _ _ h1) (h.pairs b o z x n c h1 h2)⟩
theorem ROnly.low {B r : Nat} {w w' : World} (h : ROnly B r w w') (hr : B ≤ r) (hB : B ≤ w.heap.size) : Below B w w' := ⟨h.os, h.tape, h.output, h.size, fun k hk => h.block k (by omega) (by omega) (.inl hk)⟩
/-- A cell of a Row is written, that is no integer, and behind none. -/
theorem ROnly.of_row {B r g i : Nat} {w : World} {cs : Array Value} {fr : Nat × Nat} {u : Value} (hgB : B ≤ g) (hg : w.heap[g]? = some (.cells cs 111 fr)) (hi : ∀ z, w.cell? ⟨g, i, none⟩ ≠ some (.int .i64 z)) (hp : (∀ a n c, w.cell? ⟨g, i, none⟩ ≠ some (.slice a n c)) ∨ ∀ j, i = j + 1 → ∀ z, w.cell? ⟨g, j, none⟩ ≠ some (.int .i64 z)) : ROnly B r w (w.setCell ⟨g, i, none⟩ u) := by
  have h : Only [g] w (w.setCell ⟨g, i, none⟩ u) := (Only.refl [g] w).setCell (.inl (by simp)) _
  refine ⟨h.os, h.tape, h.output, h.size, fun k hk _ ht => h.block k hk (by
    simp only [List.mem_singleton]
    rintro rfl
    rcases ht with ht | ht
    · omega
    · exact ht _ _ hg), fun p z hq => ?_, fun b o z a n c h1 h2 => ?_⟩
  · rw [World.cell?_setCell_other _ _ _ _ (fun e => hi z (by rw [e]; exact hq))]
    exact hq
  · rw [World.cell?_setCell_other _ _ _ _ (fun e => ?_)]
    · exact h2
    · obtain ⟨rfl, rfl⟩ : g = b ∧ i = o + 1 := by cases e; exact ⟨rfl, rfl⟩
      rcases hp with hp | hp
      · exact hp _ _ _ h2
      · exact hp o rfl z h1

theorem owns_set {w : World} {B size g n cap i : Nat} {e : TypeId} {xs : List Value} {u : Value} (h : w.ownsRow B e size (.slice (some ⟨g, 0, none⟩) n cap) n xs) : (w.setCell ⟨g, i, none⟩ u).ownsRow B e size (.slice (some ⟨g, 0, none⟩) n cap) n (xs.set i u) := by
  rcases h.2 with ⟨q, _⟩ | ⟨g', cap', cur, q, hb, hg, h1, h2, h3, h4⟩
  · cases q
  · cases q
    refine ⟨by rw [List.length_set, h.1], .inr ⟨g, cap, cur.setIfInBounds i u, rfl, hb, setCell_heap hg, h1, h2, by simp [h3], ?_⟩⟩
    rw [← h4]
    simp [List.take_set]
theorem rflat_set_plain : ∀ (L : List Sp) (k : Nat) (h : k < L.length), (rflat L).set (k * 3 + 1) (.bool true) = rflat (L.set k ⟨L[k].id, true, L[k].js, L[k].v⟩)
  | [], k, h => by simp at h
  | p :: L, 0, _ => rfl
  | p :: L, k + 1, h => by
    have := rflat_set_plain L k (by simpa using h)
    rw [show (k + 1) * 3 + 1 = (k * 3 + 1) + 1 + 1 + 1 by omega]
    simp only [rflat, List.set_cons_succ, List.getElem_cons_succ, this]
theorem RefB.blkrow {B : Nat} {w : World} {r g n c : Nat} {L : List Sp} (h : RefB B w r (.slice (some ⟨g, 0, none⟩) n c) L) : ∃ cs, w.heap[g]? = some (.cells cs 111 (0, 0)) := by
  rcases h.row.2 with ⟨q, _⟩ | ⟨g', cap', cur, q, _, hg, _⟩
  · cases q
  · cases q
    exact ⟨_, hg⟩
/-- A fact is made plain where it stands. -/
theorem RefB.setPlain {B : Nat} {w : World} {r g c k : Nat} {L : List Sp} (h : RefB B w r (.slice (some ⟨g, 0, none⟩) L.length c) L) (hk : k < L.length) :
    RefB B (w.setCell ⟨g, k * 3 + 1, none⟩ (.bool true)) r (.slice (some ⟨g, 0, none⟩) L.length c) (L.set k ⟨L[k].id, true, L[k].js, L[k].v⟩) ∧ ROnly B r w (w.setCell ⟨g, k * 3 + 1, none⟩ (.bool true)) := by
  obtain ⟨cs, hg⟩ := h.blkrow
  have ho : Only [g] w (w.setCell ⟨g, k * 3 + 1, none⟩ (.bool true)) := (Only.refl [g] w).setCell (.inl (by simp)) _
  have hrg : r ≠ g := by
    rintro rfl
    rw [h.blk] at hg
    cases hg
  have hkp : ∀ {t : TypeId} {s n : Nat} {u : Value} {xs : List Value}, t ≠ 111 → w.ownsRow B t s u n xs → (w.setCell ⟨g, k * 3 + 1, none⟩ (.bool true)).ownsRow B t s u n xs := fun ht hr => owns_only hr ho (fun j hj hm => by
    simp only [List.mem_singleton] at hm
    subst hm
    exact owns_not hr hg ht hj)
  obtain ⟨_, _, e0, _, hb0, _⟩ := h.at hk
  injection e0 with e1 e2 e3
  cases e1
  refine ⟨⟨(ho.block r (lt_of_heap h.blk) (by simpa using hrg)).trans h.blk, h.hB, ?_, fun p hp => ?_, by simpa using h.len, ?_⟩, ROnly.of_row (row_own h.row g rfl) hg (fun z q => by rw [hb0] at q; cases q) (.inl fun a n c q => by rw [hb0] at q; cases q)⟩
  · rw [List.length_set, ← rflat_set_plain L k hk]
    exact owns_set h.row
  · have hp' : p.js.length ≤ 1000 ∧ OfIs B w p.v p.js := by
      rcases List.mem_or_eq_of_mem_set hp with hp | rfl
      · exact h.js p hp
      · exact h.js L[k] (List.getElem_mem hk)
    exact ⟨hp'.1, hkp (by decide) hp'.2.own, fun j hj => ⟨(hp'.2.tups j hj).1, hkp (by decide) (hp'.2.tups j hj).2⟩⟩
  · have e : (L.set k ⟨L[k].id, true, L[k].js, L[k].v⟩).map Sp.id = L.map Sp.id := by
      rw [List.map_set]
      refine List.ext_getElem (by simp) fun i h1 h2 => ?_
      rw [List.getElem_set]
      split
      · rename_i q
        subst q
        simp
      · rfl
    rw [e]
    exact h.asc

set_option maxHeartbeats 2000000 in
theorem rplain_any (B r : Nat) (v : Value) (L : List Sp) (id : Int) (w : World) (h : RefB B w r v L) (hl : L.length < 900) :
    Calls Try.prog 70 #[.pointer (some ⟨r, 0, none⟩), .int .i64 id] w fun e w' => e = .returned (.tuple #[]) ∧ (∃ (v' : Value) (L1 : List Sp) (k : Nat) (hk : k < L1.length), L1[k].id = id ∧ (L1 = L ∨ (L1 = insR L k ⟨id, false, [], .slice none 0 0⟩ ∧ ∀ p ∈ L, p.id ≠ id)) ∧
      RefB B w' r v' (L1.set k ⟨L1[k].id, true, L1[k].js, L1[k].v⟩) ∧ ∀ A : Nat → Prop, (∀ k, w.heap.size ≤ k → A k) → AvV A v → AvV A v') ∧ ROnly B r w w' := by
  have hr := rrow_any B r v L id w h hl
  have Hr := hide hr
  obtain ⟨va, vc, rfl⟩ := h.form
  have HB0 := hide h.blk
  clear h hr
  go_enter Try.func70, Try.ntmps70
  go_wp2_with fail
  (with_reducible refine Hr.out.mono ?_)
  rintro e W ⟨k, rfl, v1, L1, hR, ho, ⟨hk, hid⟩, hor, hav⟩
  have Hav := hide hav
  obtain ⟨g, c, e, d0, d1, _⟩ := hR.at hk
  subst e
  have c0 := (cells1b hR.blk).1
  have hlen := hR.len
  obtain ⟨cs, hg⟩ := hR.blkrow
  have hfz : W.frozen? ⟨g, k * 3 + 1, none⟩ = false := by simp [World.frozen?, hg]
  obtain ⟨h1, h2⟩ := hR.setPlain hk
  have HF := hide (And.intro h1 ((ROnly.of_only HB0.out (fun z q => by cases q) ho).trans h2))
  have Hid0 := hide hid
  have Hor := hide hor
  have hk0 : (0 : Int) ≤ (k : Int) := by omega
  obtain ⟨pz, hpz⟩ : ∃ pz, L1[k].plain = pz := ⟨_, rfl⟩
  rw [hpz] at d1
  clear hR ho hg h1 h2 hid hor hpz d0 Hr hav
  go_wp2
  go_end0
  exact ⟨rfl, ⟨_, L1, k, hk, Hid0.out, Hor.out, HF.out.1, Hav.out⟩, HF.out.2⟩
end Go.Proofs.Ytmcajoccfbebiaa
