/- LexerBack: the walk. -/
import Derived.Test.YtlodonnnbjcejaaGreatDoorLxV
import Derived.Maps.AppendAt
namespace Go.Proofs.YtlodonnnbjcejaaGreatDoor
open Go Go.RowKit Go.Lib Go.Sort Go.Shelf

theorem str_info : (Tryz.prog.info? 9).map (fun i => (i.zero, i.size, i.bytes)) = some (some (.string ⟨#[]⟩), 1, 16) := by kernel_rfl
theorem str_parts : ∃ i, Tryz.prog.info? 9 = some i ∧ i.zero = some (.string ⟨#[]⟩) ∧ i.size = 1 ∧ i.bytes = 16 := by
  have h := str_info
  cases hi : Tryz.prog.info? 9 with
  | none => simp [hi] at h
  | some i =>
    simp [hi] at h
    exact ⟨i, rfl, h.1, h.2.1, h.2.2⟩
/-- Words as they are written. -/
def strB (t : Tkn) : ByteArray := ⟨(spellW t.w).toArray⟩
def strs (ts : List Tkn) : List Value := ts.map fun t => .string (strB t)
theorem strs_get (ts : List Tkn) (j : Nat) (x : ByteArray) (h : (ts.map strB)[j]? = some x) : (strs ts)[j]? = some (.string x) := by
  unfold strs
  rw [List.getElem?_map] at h ⊢
  cases e : ts[j]? with
  | none => rw [e] at h; cases h
  | some t =>
    rw [e] at h
    injection h with h
    rw [← h]
    rfl
theorem join_any {w : World} {B : Nat} {v : Value} {ts : List Tkn} (h : w.ownsRow B 9 1 v ts.length (strs ts)) (sep : ByteArray) (hN : ts.length ≤ 100000) (hl : (joinB (dl sep) (ts.map fun t => spellW t.w)).length ≤ 65536) :
    Calls Tryz.prog 17 #[v, .string sep] w fun e w' => e = .returned (.string ⟨(joinB (dl sep) (ts.map fun t => spellW t.w)).toArray⟩) ∧ Below w.heap.size w w' := by
  have hm : (ts.map strB).map (fun x => x.data.toList) = ts.map fun t => spellW t.w := by
    rw [List.map_map]
    rfl
  rcases h.2 with ⟨rfl, h0⟩ | ⟨g, cap, cur, rfl, _, hg, hc, _⟩
  · obtain rfl : ts = [] := List.eq_nil_of_length_eq_zero h0
    refine (Tryz.strings_Join_none none 0 sep w).mono ?_
    rintro e w' ⟨rfl, rfl⟩
    exact ⟨rfl, Below.refl _ _⟩
  · have hcells : ∀ (j : Nat) x, (ts.map strB)[j]? = some x → w.cell? ⟨g, 0 + j, none⟩ = some (.string x) := fun j x hx => by
      have := h.cells (g := g) rfl j _ (strs_get ts j x hx)
      rw [Addr.add_lit] at this
      exact this
    have hj := Tryz.strings_Join g 0 cap (ts.map strB) sep w hcells (lt_of_heap hg) (by rw [List.length_map]; omega) (by rw [List.length_map]; exact hc) (by
      rw [hm]
      have : Lib.join (ts.map fun t => spellW t.w) sep.data.toList = joinB (dl sep) (ts.map fun t => spellW t.w) := join_B _ _
      rw [this]
      omega)
    rw [List.length_map, hm] at hj
    refine hj.mono ?_
    rintro e w' ⟨rfl, hb⟩
    refine ⟨?_, hb⟩
    rw [show Lib.join (ts.map fun t => spellW t.w) sep.data.toList = joinB (dl sep) (ts.map fun t => spellW t.w) from join_B _ _]
structure Bk (w wr : World) (v vx : Value) (xs ys : List Tkn) : Prop where
  below : Below w.heap.size w wr
  row : wr.ownsRow w.heap.size 9 1 v ys.length (strs ys)
  rx : wr.ownsRow w.heap.size 37 7 vx xs.length (tflat xs)
theorem Bk.lower {w wr X : World} {v vx : Value} {xs ys : List Tkn} (h : Bk w wr v vx xs ys) (hb : Below wr.heap.size wr X) : Bk w X v vx xs ys :=
  ⟨h.below.trans (hb.mono h.below.size), owns_below h.row hb, owns_below h.rx hb⟩
theorem Bk.next {w wr X : World} {v v' vx : Value} {xs ys : List Tkn} {t : Tkn} (h : Bk w wr v vx xs ys) (o : Obj) (hg : (wr.alloc o).grownBy X v.ownBlock) (hr : X.ownsRow w.heap.size 9 1 v' (ys.length + 1) (strs ys ++ [.string (strB t)])) : Bk w X v' vx xs (ys ++ [t]) := by
  have hx := owns_below h.rx ((Below.refl _ wr).alloc (Nat.le_refl _) o)
  refine ⟨(h.below.alloc h.below.size o).grown hg (by have := h.below.size; simp; omega) (fun kk e => row_own h.row kk e), ?_, ?_⟩
  · rw [List.length_append]
    unfold strs at hr ⊢
    rw [List.map_append]
    exact hr
  · refine ⟨hx.1, ?_⟩
    rcases hx.2 with q | ⟨g, cap, cur, e, hb, hgg, r⟩
    · exact .inl q
    · refine .inr ⟨g, cap, cur, e, hb, (hg.block g (lt_of_heap hgg) fun e2 => ?_).trans hgg, r⟩
      rcases h.row.2 with ⟨e3, _⟩ | ⟨g', cap', cur', e3, _, hg', _⟩
      · rw [e3] at e2
        cases e2
      · rw [e3] at e2
        simp only [Value.ownBlock, Option.some.injEq] at e2
        subst e2
        have := (Below.heap_alloc wr o g (lt_of_heap hg')).trans hg'
        rw [hgg] at this
        cases this
end Go.Proofs.YtlodonnnbjcejaaGreatDoor
