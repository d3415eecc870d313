/- Tuples that are copied, and written over. -/
import Derived.Test.YtelgajgghgknnaaRSort
namespace Go.Proofs.Ytelgajgghgknnaa
open Go Go.RowKit Go.MapKept Go.Sort

/-- A cell of a row of ints is written over: all rows of ints stay such. -/
theorem row_poke {w : World} {B n k g : Nat} {z : Int} {x : Value} {t : List Int} (h : w.ownsRow B 3 1 x n (t.map (.int .i64))) :
    ∃ t' : List Int, (w.setCell ⟨g, k, none⟩ (.int .i64 z)).ownsRow B 3 1 x n (t'.map (.int .i64)) := by
  have hl := h.1
  rcases h.2 with ⟨rfl, hn⟩ | ⟨g', cap, cur, rfl, hb, hg, h1, h2, h3, h4⟩
  · exact ⟨t, hl, .inl ⟨rfl, hn⟩⟩
  · by_cases hgg : g' = g
    · subst hgg
      refine ⟨t.set k z, by simpa using hl, .inr ⟨g', cap, cur.setIfInBounds k (.int .i64 z), rfl, hb, setCell_heap hg, h1, h2, by simpa using h3, ?_⟩⟩
      rw [Array.toList_setIfInBounds, List.take_set, h4, List.map_set]
    · exact ⟨t, hl, .inr ⟨g', cap, cur, rfl, hb, (Below.heap_setCell _ _ _ _ hgg).trans hg, h1, h2, h3, h4⟩⟩

/-- What is told may be written over: the row's cells stand, and each tuple is a row of ints of its length. -/
def Spoils (B : Nat) (v : Value) (l : List Ac) (w : World) : Prop :=
  (∀ i (h : i < l.length), ∃ b off cap xa xc, v = .slice (some ⟨b, off, none⟩) l.length cap ∧ l[i].x = .slice xa l[i].tup.length xc ∧ w.cell? ⟨b, off + i * 3 + 1, none⟩ = some (.slice xa l[i].tup.length xc)) ∧
  (∀ a ∈ l, ∃ t : List Int, w.ownsRow B 3 1 a.x a.tup.length (t.map (.int .i64)) ∧ ∀ k, a.x.ownBlock = some k → v.ownBlock ≠ some k)

theorem ResIs.spoils {B : Nat} {w : World} {v : Value} {l : List Ac} (h : ResIs B w v l) : Spoils B v l w :=
  ⟨fun i hi => by obtain ⟨b, off, cap, xa, xc, e, hx, _, c1, _⟩ := h.acts.at hi; exact ⟨b, off, cap, xa, xc, e, hx, c1⟩, fun a ha => ⟨a.tup, h.tups a ha, h.apart a ha⟩⟩
theorem Spoils.below {B : Nat} {w w' : World} {v : Value} {l : List Ac} (h : Spoils B v l w) (hb : Below w.heap.size w w') : Spoils B v l w' :=
  ⟨fun i hi => by obtain ⟨b, off, cap, xa, xc, e, hx, c1⟩ := h.1 i hi; exact ⟨b, off, cap, xa, xc, e, hx, (hb.cell (p := ⟨b, off + i * 3 + 1, none⟩) (lt_of_cell c1)).trans c1⟩,
    fun a ha => by obtain ⟨t, h1, h2⟩ := h.2 a ha; exact ⟨t, owns_below h1 hb, h2⟩⟩
theorem Spoils.poke {B : Nat} {w : World} {v : Value} {l : List Ac} (h : Spoils B v l w) {a : Ac} (ha : a ∈ l) {g o n c k : Nat} (hx : a.x = .slice (some ⟨g, o, none⟩) n c) (z : Int) : Spoils B v l (w.setCell ⟨g, k, none⟩ (.int .i64 z)) := by
  refine ⟨fun i hi => ?_, fun b hb => ?_⟩
  · obtain ⟨b, off, cap, xa, xc, e, hx', c1⟩ := h.1 i hi
    obtain ⟨t, _, h2⟩ := h.2 a ha
    have hne : b ≠ g := fun q => by
      subst q
      exact h2 b (by rw [hx]; rfl) (by rw [e]; rfl)
    exact ⟨b, off, cap, xa, xc, e, hx', (World.cell?_of_block (w := w) (Below.heap_setCell _ _ _ _ hne)).trans c1⟩
  · obtain ⟨t, h1, h2⟩ := h.2 b hb
    obtain ⟨t', h1'⟩ := row_poke (g := g) (k := k) (z := z) h1
    exact ⟨t', h1', h2⟩
theorem Spoils.at {B : Nat} {w : World} {v : Value} {l : List Ac} (h : Spoils B v l w) {i : Nat} (hi : i < l.length) {k : Nat} (hk : k < l[i].tup.length) : ∃ b off cap g xc z, v = .slice (some ⟨b, off, none⟩) l.length cap ∧ l[i].x = .slice (some ⟨g, 0, none⟩) l[i].tup.length xc ∧ B ≤ g ∧ l[i].tup.length ≤ xc ∧ xc ≤ maxLen ∧
    w.cell? ⟨b, off + i * 3 + 1, none⟩ = some (.slice (some ⟨g, 0, none⟩) l[i].tup.length xc) ∧ w.cell? ⟨g, k, none⟩ = some (.int .i64 z) ∧ w.frozen? ⟨g, k, none⟩ = false := by
  obtain ⟨b, off, cap, xa, xc, e, hx, c1⟩ := h.1 i hi
  obtain ⟨t, h1, h2⟩ := h.2 _ (List.getElem_mem hi)
  rcases h1.2 with ⟨hn, h0⟩ | ⟨g, cap', cur, e', hb, hg, hc1, hc2, hc3, hc4⟩
  · omega
  · rw [hx] at e'
    cases e'
    have hl : t.length = l[i].tup.length := by have := h1.1; simpa using this
    have hz : (t.map (Value.int .i64))[k]? = some (.int .i64 t[k]) := by simp [hl, hk]
    have hcell := h1.cells (g := g) (by rw [hx]; rfl) k _ hz
    simp only [Addr.add_lit, Nat.zero_add] at hcell
    exact ⟨b, off, cap, g, xc, _, e, hx, hb, hc1, hc2, c1, hcell, by simp [World.frozen?, hg]⟩

theorem NIs.news {w : World} {x : Value} {l : List Int} (h : NIs w x l) : (l = [] ∧ x = .slice none 0 0) ∨ ∃ ad c, x = .slice (some ad) l.length c ∧ ∀ j u, (l.map (Value.int .i64))[j]? = some u → w.cell? (ad.add j) = some u := by
  obtain ⟨hl, ⟨b, off, cap, rfl, hi⟩ | ⟨rfl, rfl | ⟨a, cap, rfl⟩⟩⟩ := h
  · refine .inr ⟨_, _, rfl, fun j u hu => ?_⟩
    have hj : j < l.length := by have := (List.getElem?_eq_some_iff.1 hu).1; simpa using this
    simp only [List.getElem?_map, List.getElem?_eq_getElem hj, Option.map_some, Option.some.injEq] at hu
    rw [← hu]
    simpa only [Addr.add_lit] using hi j hj
  · exact .inl ⟨rfl, rfl⟩
  · exact .inr ⟨_, _, rfl, fun j u hu => by simp at hu⟩

theorem box_step {B : Nat} {wr wB w2 : World} {ru su : Int} {n0 : Nat} {tu : List Int} {xa na la : Option Addr} {xc nc lc : Nat} {lk : List Ac} (hO : Only [] wr wB) (hbox : wB.heap[wr.heap.size]? = some (Obj.cells #[.int .i64 ru, .slice xa n0 xc, .int .i64 su] 27)) (hz : wB.heap.size = wr.heap.size + 1)
    (hb2 : Below wB.heap.size wB w2) (hrow : w2.ownsRow wB.heap.size 3 1 (.slice na tu.length nc) tu.length (tu.map (.int .i64))) (hout : OutIs B wr (.slice la lk.length lc) lk) (hB : B ≤ wr.heap.size) :
    (w2.cell? ⟨wr.heap.size, 0, none⟩ = some (.int .i64 ru) ∧ w2.cell? ⟨wr.heap.size, 1, none⟩ = some (.slice xa n0 xc) ∧ w2.cell? ⟨wr.heap.size, 2, none⟩ = some (.int .i64 su) ∧ w2.frozen? ⟨wr.heap.size, 0, none⟩ = false ∧ w2.frozen? ⟨wr.heap.size, 1, none⟩ = false ∧ w2.frozen? ⟨wr.heap.size, 2, none⟩ = false) ∧ wr.heap.size < w2.heap.size ∧
    ((w2.setCell ⟨wr.heap.size, 1, none⟩ (.slice na tu.length nc)).alloc (Obj.cells #[.int .i64 ru, .slice na tu.length nc, .int .i64 su] 27)).ownsRow B 3 1 (.slice na tu.length nc) tu.length (tu.map (.int .i64)) ∧
    Below wr.heap.size wr ((w2.setCell ⟨wr.heap.size, 1, none⟩ (.slice na tu.length nc)).alloc (Obj.cells #[.int .i64 ru, .slice na tu.length nc, .int .i64 su] 27)) ∧
    (∀ j u, [.int .i64 ru, .slice na tu.length nc, .int .i64 su][j]? = some u → ((w2.setCell ⟨wr.heap.size, 1, none⟩ (.slice na tu.length nc)).alloc (Obj.cells #[.int .i64 ru, .slice na tu.length nc, .int .i64 su] 27)).cell? ((⟨w2.heap.size, 0, none⟩ : Addr).add j) = some u) ∧
    ((w2.setCell ⟨wr.heap.size, 1, none⟩ (.slice na tu.length nc)).alloc (Obj.cells #[.int .i64 ru, .slice na tu.length nc, .int .i64 su] 27)).ownsRow B 27 3 (.slice la lk.length lc) lk.length (aflat lk) := by
  have hsz2 : wr.heap.size < w2.heap.size := by have := hb2.size; omega
  have B3 : Below wr.heap.size wr (w2.setCell ⟨wr.heap.size, 1, none⟩ (.slice na tu.length nc)) := (hO.below.trans (hb2.mono (by omega))).setCell (Nat.le_refl _) _
  have hz3 : (w2.setCell ⟨wr.heap.size, 1, none⟩ (.slice na tu.length nc)).heap.size = w2.heap.size := by simp [World.setCell]
  have x3 := owns_base (owns_only (S := [wr.heap.size]) hrow ((Only.refl _ _).setCell (p := ⟨wr.heap.size, 1, none⟩) (.inl (by simp)) (.slice na tu.length nc)) (fun k hk => by have := (hrow.lt k hk).1; simp; omega)) (B' := B) (by omega)
  have hB4 := B3.alloc (by rw [hz3]; omega) (Obj.cells #[.int .i64 ru, .slice na tu.length nc, .int .i64 su] 27)
  refine ⟨cells3a ((hb2.block wr.heap.size (by omega)).trans hbox), hsz2, x3.alloc _, hB4, ?_, (hout.below hB4).own⟩
  have := World.news_of_block (cs := #[.int .i64 ru, .slice na tu.length nc, .int .i64 su]) (t := 27) (fr := (0, 0)) (heap_alloc_new (w2.setCell ⟨wr.heap.size, 1, none⟩ (.slice na tu.length nc)) (Obj.cells #[.int .i64 ru, .slice na tu.length nc, .int .i64 su] 27))
  rw [hz3] at this
  exact this
end Go.Proofs.Ytelgajgghgknnaa
