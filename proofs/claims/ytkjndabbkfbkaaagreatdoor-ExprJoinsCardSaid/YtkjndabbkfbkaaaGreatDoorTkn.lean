/- Words, and slices that read as words. No program is named but for a type's number. -/
import Derived.Test.YtkjndabbkfbkaaaGreatDoorV0
import Derived.Test.YtkjndabbkfbkaaaGreatDoorOwn3
namespace Go.Proofs.YtkjndabbkfbkaaaGreatDoor
open Go Go.RowKit

/-- A word: its kind, its text, its value. -/
structure Wd where
  k : Int
  t : List UInt8
  v : Int × Int × List UInt8
/-- A word at a place. -/
structure Tkn where
  w : Wd
  line : Int
  col : Int
def v0 : Int × Int × List UInt8 := (0, 0, [])
/-- The cells of words. -/
def tflat : List Tkn → List Value
  | [] => []
  | t :: l => .int .u8 t.w.k :: .string ⟨t.w.t.toArray⟩ :: .int .u8 t.w.v.1 :: .int .i64 t.w.v.2.1 :: .string ⟨t.w.v.2.2.toArray⟩ :: .int .i64 t.line :: .int .i64 t.col :: tflat l
theorem tflat_append (l m : List Tkn) : tflat (l ++ m) = tflat l ++ tflat m := by
  induction l with
  | nil => rfl
  | cons j l ih => simp [tflat, ih]
theorem tflat_length (l : List Tkn) : (tflat l).length = l.length * 7 := by
  induction l with
  | nil => rfl
  | cons j l ih => simp [tflat, ih]; omega
theorem tflat_get : ∀ (l : List Tkn) (i : Nat) (h : i < l.length), (tflat l)[i * 7]? = some (.int .u8 l[i].w.k) ∧ (tflat l)[i * 7 + 1]? = some (.string ⟨l[i].w.t.toArray⟩) ∧ (tflat l)[i * 7 + 2]? = some (.int .u8 l[i].w.v.1) ∧
    (tflat l)[i * 7 + 3]? = some (.int .i64 l[i].w.v.2.1) ∧ (tflat l)[i * 7 + 4]? = some (.string ⟨l[i].w.v.2.2.toArray⟩) ∧ (tflat l)[i * 7 + 5]? = some (.int .i64 l[i].line) ∧ (tflat l)[i * 7 + 6]? = some (.int .i64 l[i].col)
  | [], i, h => by simp at h
  | t :: l, 0, _ => ⟨rfl, rfl, rfl, rfl, rfl, rfl, rfl⟩
  | t :: l, i + 1, h => by
    have := tflat_get l i (by simpa using h)
    rw [show (i + 1) * 7 = i * 7 + 1 + 1 + 1 + 1 + 1 + 1 + 1 by omega]
    exact this
/-- A slice that reads as words. -/
def TkIs (w : World) (v : Value) (ts : List Tkn) : Prop :=
  (v = .slice none 0 0 ∧ ts = []) ∨ ∃ b c, v = .slice (some ⟨b, 0, none⟩) ts.length c ∧ ts.length ≤ c ∧ b < w.heap.size ∧ ∀ j u, (tflat ts)[j]? = some u → w.cell? ⟨b, j, none⟩ = some u
theorem TkIs.below {w w' : World} {v : Value} {ts : List Tkn} (h : TkIs w v ts) (hb : Below w.heap.size w w') : TkIs w' v ts := by
  rcases h with h | ⟨b, c, h1, h4, h2, h3⟩
  · exact .inl h
  · exact .inr ⟨b, c, h1, h4, Nat.lt_of_lt_of_le h2 hb.size, fun j u hj => (World.cell?_of_block (w := w) (w' := w') (a := ⟨b, j, none⟩) (hb.block b h2)).trans (h3 j u hj)⟩
theorem TkIs.of_row {w : World} {B : Nat} {v : Value} {ts : List Tkn} (h : w.ownsRow B 62 7 v ts.length (tflat ts)) : TkIs w v ts := by
  rcases h.2 with ⟨e, h0⟩ | ⟨g, cap, cur, rfl, _, hg, hc, _⟩
  · exact .inl ⟨e, List.eq_nil_of_length_eq_zero h0⟩
  · refine .inr ⟨g, cap, rfl, hc, lt_of_heap hg, fun j u hj => ?_⟩
    have := h.cells (g := g) rfl j u hj
    rwa [Addr.add_lit, Nat.zero_add] at this
theorem TkIs.form {w : World} {v : Value} {ts : List Tkn} (h : TkIs w v ts) : ∃ a c, v = .slice a ts.length c := by
  rcases h with ⟨rfl, rfl⟩ | ⟨b, c, rfl, _⟩
  · exact ⟨none, 0, rfl⟩
  · exact ⟨_, _, rfl⟩
theorem TkIs.at {w : World} {v : Value} {ts : List Tkn} (h : TkIs w v ts) {k : Nat} (hk : k < ts.length) : ∃ b c, v = .slice (some ⟨b, 0, none⟩) ts.length c ∧ b < w.heap.size ∧
    w.cell? ⟨b, k * 7, none⟩ = some (.int .u8 ts[k].w.k) ∧ w.cell? ⟨b, k * 7 + 1, none⟩ = some (.string ⟨ts[k].w.t.toArray⟩) ∧ w.cell? ⟨b, k * 7 + 2, none⟩ = some (.int .u8 ts[k].w.v.1) ∧ w.cell? ⟨b, k * 7 + 3, none⟩ = some (.int .i64 ts[k].w.v.2.1) ∧
    w.cell? ⟨b, k * 7 + 4, none⟩ = some (.string ⟨ts[k].w.v.2.2.toArray⟩) ∧ w.cell? ⟨b, k * 7 + 5, none⟩ = some (.int .i64 ts[k].line) ∧ w.cell? ⟨b, k * 7 + 6, none⟩ = some (.int .i64 ts[k].col) := by
  rcases h with ⟨_, rfl⟩ | ⟨b, c, rfl, _, h2, h3⟩
  · simp at hk
  · obtain ⟨g0, g1, g2, g3, g4, g5, g6⟩ := tflat_get ts k hk
    exact ⟨b, c, rfl, h2, h3 _ _ g0, h3 _ _ g1, h3 _ _ g2, h3 _ _ g3, h3 _ _ g4, h3 _ _ g5, h3 _ _ g6⟩
/-- The k-th word of a row. -/
def TokRow (w : World) (b k : Nat) (W : Wd) (line col : Int) : Prop :=
    w.cell? ⟨b, k * 7, none⟩ = some (.int .u8 W.k) ∧ w.cell? ⟨b, k * 7 + 1, none⟩ = some (.string ⟨W.t.toArray⟩) ∧ w.cell? ⟨b, k * 7 + 2, none⟩ = some (.int .u8 W.v.1) ∧ w.cell? ⟨b, k * 7 + 3, none⟩ = some (.int .i64 W.v.2.1) ∧
    w.cell? ⟨b, k * 7 + 4, none⟩ = some (.string ⟨W.v.2.2.toArray⟩) ∧ w.cell? ⟨b, k * 7 + 5, none⟩ = some (.int .i64 line) ∧ w.cell? ⟨b, k * 7 + 6, none⟩ = some (.int .i64 col)
theorem TkIs.kept {w w' : World} {v : Value} {ts : List Tkn} (h : TkIs w v ts) (hz : w.heap.size ≤ w'.heap.size) (he : ∀ g, v.ownBlock = some g → g < w.heap.size → w'.heap[g]? = w.heap[g]?) : TkIs w' v ts := by
  rcases h with h | ⟨b, c, rfl, h4, h2, h3⟩
  · exact .inl h
  · exact .inr ⟨b, c, rfl, h4, Nat.lt_of_lt_of_le h2 hz, fun j u hj => (World.cell?_of_block (w := w) (w' := w') (a := ⟨b, j, none⟩) (he b rfl h2)).trans (h3 j u hj)⟩
theorem TkIs.lt {w : World} {v : Value} {ts : List Tkn} (h : TkIs w v ts) : ∀ g, v.ownBlock = some g → g < w.heap.size := fun g e => by
  rcases h with ⟨rfl, _⟩ | ⟨b, c, rfl, h4, h2, h3⟩
  · cases e
  · injection e with e
    subst e
    exact h2
end Go.Proofs.YtkjndabbkfbkaaaGreatDoor
