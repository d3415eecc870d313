/- An activation, and a row of them in memory. -/
import Derived.Test.YtelgajgghgknnaaBase
import Derived.Test.YtelgajgghgknnaaStable
import Derived.Test.YtelgajgghgknnaaProg
namespace Go.Proofs.Ytelgajgghgknnaa
open Go Go.RowKit Go.MapKept Go.Sort

/-- An activation. -/
structure Ac where
  rule : Int
  tup : List Int
  sal : Int
  x : Value
instance : Inhabited Ac := ⟨⟨0, [], 0, .slice none 0 0⟩⟩
def Ac.val (a : Ac) : Value := .agg #[.int .i64 a.rule, a.x, .int .i64 a.sal]


/-- The cells of block blk from off on are the row d of activations; they may be written. -/
def RowOf (w : World) (blk off : Nat) (d : Array Ac) : Prop :=
  ∀ i, i < d.size → (w.cell? ⟨blk, off + i * 3, none⟩ = some (.int .i64 d[i]!.rule) ∧ w.cell? ⟨blk, off + i * 3 + 1, none⟩ = some d[i]!.x ∧ w.cell? ⟨blk, off + i * 3 + 2, none⟩ = some (.int .i64 d[i]!.sal)) ∧
    (w.frozen? ⟨blk, off + i * 3, none⟩ = false ∧ w.frozen? ⟨blk, off + i * 3 + 1, none⟩ = false ∧ w.frozen? ⟨blk, off + i * 3 + 2, none⟩ = false) ∧ ∃ a n c, d[i]!.x = .slice a n c

theorem RowOf.of_block {w w' : World} {blk off : Nat} {d : Array Ac} (h : RowOf w blk off d) (he : w'.heap[blk]? = w.heap[blk]?) : RowOf w' blk off d := by
  have c : ∀ o, w'.cell? ⟨blk, o, none⟩ = w.cell? ⟨blk, o, none⟩ := fun o => World.cell?_of_block (w := w) he
  have f : ∀ o, w'.frozen? ⟨blk, o, none⟩ = w.frozen? ⟨blk, o, none⟩ := fun o => World.frozen?_of_block (w := w) he
  intro i hi
  simp only [c, f]
  exact h i hi

theorem cell_set (w : World) (b o o' : Nat) (u : Value) : (w.setCell ⟨b, o, none⟩ u).cell? ⟨b, o', none⟩ = if o = o' then (w.cell? ⟨b, o, none⟩).map (fun _ => u) else w.cell? ⟨b, o', none⟩ := by
  simp only [World.cell?, World.setCell, Array.getElem?_modify]
  cases h : w.heap[b]? with
  | none => simp
  | some x =>
    cases x with
    | cells c t fz =>
      simp only [if_true, Option.map_some, Option.isSome_none, Bool.false_eq_true, if_false]
      rw [Array.getElem?_setIfInBounds]
      by_cases hoo : o = o'
      · subst hoo
        by_cases hl : o < c.size
        · simp [hl]
        · simp [hl]
      · simp [hoo]
    | _ => simp

theorem cell_set_ne {w : World} {b o o' : Nat} {u : Value} (h : o ≠ o') : (w.setCell ⟨b, o, none⟩ u).cell? ⟨b, o', none⟩ = w.cell? ⟨b, o', none⟩ := by rw [cell_set, if_neg h]
theorem cell_set_eq {w : World} {b o : Nat} {u x : Value} (h : w.cell? ⟨b, o, none⟩ = some x) : (w.setCell ⟨b, o, none⟩ u).cell? ⟨b, o, none⟩ = some u := by rw [cell_set, if_pos rfl, h]; rfl
theorem frozen_set (w : World) (b o o' : Nat) (u : Value) : (w.setCell ⟨b, o, none⟩ u).frozen? ⟨b, o', none⟩ = w.frozen? ⟨b, o', none⟩ := by
  simp only [World.frozen?, World.setCell, Array.getElem?_modify]
  cases h : w.heap[b]? with
  | none => simp
  | some x => cases x <;> simp

/-- Three cells at p are written over. -/
def set3 (w : World) (b o : Nat) (x y z : Value) : World := ((w.setCell ⟨b, o, none⟩ x).setCell ⟨b, o + 1, none⟩ y).setCell ⟨b, o + 2, none⟩ z

theorem set3_far {w : World} {b o q : Nat} {x y z : Value} (h : q < o ∨ o + 3 ≤ q) : (set3 w b o x y z).cell? ⟨b, q, none⟩ = w.cell? ⟨b, q, none⟩ := by
  unfold set3
  rw [cell_set_ne (by omega), cell_set_ne (by omega), cell_set_ne (by omega)]
theorem set3_at {w : World} {b o : Nat} {x y z x' y' z' : Value} (h0 : w.cell? ⟨b, o, none⟩ = some x') (h1 : w.cell? ⟨b, o + 1, none⟩ = some y') (h2 : w.cell? ⟨b, o + 2, none⟩ = some z') :
    (set3 w b o x y z).cell? ⟨b, o, none⟩ = some x ∧ (set3 w b o x y z).cell? ⟨b, o + 1, none⟩ = some y ∧ (set3 w b o x y z).cell? ⟨b, o + 2, none⟩ = some z := by
  unfold set3
  refine ⟨?_, ?_, ?_⟩
  · rw [cell_set_ne (by omega), cell_set_ne (by omega)]
    exact cell_set_eq h0
  · rw [cell_set_ne (by omega)]
    exact cell_set_eq ((cell_set_ne (by omega)).trans h1)
  · exact cell_set_eq ((cell_set_ne (by omega)).trans ((cell_set_ne (by omega)).trans h2))
theorem set3_frozen (w : World) (b o q : Nat) (x y z : Value) : (set3 w b o x y z).frozen? ⟨b, q, none⟩ = w.frozen? ⟨b, q, none⟩ := by
  unfold set3
  rw [frozen_set, frozen_set, frozen_set]

/-- Row i is written over by e. -/
theorem RowOf.set {w : World} {blk off : Nat} {d : Array Ac} (h : RowOf w blk off d) {i : Nat} (e : Ac) (he : ∃ a n c, e.x = .slice a n c) :
    RowOf (set3 w blk (off + i * 3) (.int .i64 e.rule) e.x (.int .i64 e.sal)) blk off (d.setIfInBounds i e) := by
  intro k hk
  have hk' : k < d.size := by simpa using hk
  obtain ⟨⟨c0, c1, c2⟩, f, q⟩ := h k hk'
  simp only [set3_frozen]
  by_cases hik : i = k
  · subst hik
    have : (d.setIfInBounds i e)[i]! = e := by rw [getElem!_pos (d.setIfInBounds i e) i hk]; simp
    rw [this]
    exact ⟨set3_at c0 c1 c2, f, he⟩
  · have : (d.setIfInBounds i e)[k]! = d[k]! := by simp only [getElem!_def, Array.getElem?_setIfInBounds, if_neg hik]
    rw [this, set3_far (by omega), set3_far (by omega), set3_far (by omega)]
    exact ⟨⟨c0, c1, c2⟩, f, q⟩

theorem RowOf.swap {w : World} {blk off : Nat} {d : Array Ac} (h : RowOf w blk off d) {i j : Nat} (hi : i < d.size) (hj : j < d.size) :
    RowOf (set3 (set3 w blk (off + i * 3) (.int .i64 d[j]!.rule) d[j]!.x (.int .i64 d[j]!.sal)) blk (off + j * 3) (.int .i64 d[i]!.rule) d[i]!.x (.int .i64 d[i]!.sal)) blk off (swp d i j) := by
  have h1 := h.set (i := i) d[j]! (h j hj).2.2
  exact h1.set (i := j) d[i]! (h i hi).2.2

theorem Only.set3 {S : List Nat} {a b : World} (h : Only S a b) {p o : Nat} (hp : p ∈ S ∨ a.heap.size ≤ p) (x y z : Value) : Only S a (set3 b p o x y z) := ((h.setCell hp x).setCell hp y).setCell hp z

theorem RowOf.drew {w : World} {blk off : Nat} {d : Array Ac} (h : RowOf w blk off d) : RowOf w.drew blk off d := h.of_block rfl

theorem RowOf.swapped {w wr : World} {blk off : Nat} {d : Array Ac} (h : RowOf wr blk off d) (ho : Only [blk] w wr) {i j : Nat} (hi : i < d.size) (hj : j < d.size) {r1 s1 r2 s2 : Int} {q1 q2 : Value}
    (e1 : d[i]!.rule = r1 ∧ d[i]!.x = q1 ∧ d[i]!.sal = s1) (e2 : d[j]!.rule = r2 ∧ d[j]!.x = q2 ∧ d[j]!.sal = s2) :
    ∃ W2, ((((((wr.setCell ⟨blk, off + i * 3, none⟩ (.int .i64 r2)).setCell ⟨blk, off + i * 3 + 1, none⟩ q2).setCell ⟨blk, off + i * 3 + 2, none⟩ (.int .i64 s2)).setCell ⟨blk, off + j * 3, none⟩ (.int .i64 r1)).setCell ⟨blk, off + j * 3 + 1, none⟩ q1).setCell ⟨blk, off + j * 3 + 2, none⟩ (.int .i64 s1)).drew = W2 ∧
      RowOf W2 blk off (swp d i j) ∧ Only [blk] w W2 := by
  have R := h.swap hi hj
  rw [e1.1, e1.2.1, e1.2.2, e2.1, e2.2.1, e2.2.2] at R
  unfold set3 at R
  refine ⟨_, rfl, R.drew, ?_⟩
  exact ((((((ho.setCell (.inl (by simp)) _).setCell (.inl (by simp)) _).setCell (.inl (by simp)) _).setCell (.inl (by simp)) _).setCell (.inl (by simp)) _).setCell (.inl (by simp)) _).drew
end Go.Proofs.Ytelgajgghgknnaa
