/- Arguments opened: values, and witanlaw05's calls. -/
import Derived.Test.YteealadflekffaaArgs0
import Derived.Test.YteealadflekffaaVals
namespace Go.Proofs.Yteealadflekffaa
open Go Go.ChangeShapes Go.WideShapes Go.ChangeAt Go.RowKit Go.Deep

set_option maxRecDepth 100000 in
/-- A slice of api.Value that was handed in. -/
theorem open_vals {H : Type} {enc : TypeId × Value → H} {w : World} {base : Nat} {spare : Nat → Bool} {held : Bool} {fuel : Nat} {v : Value} {x : DataW H × List MemPlace}
    (h : DataW.trod enc Try.prog w base spare held fuel 26 [v] = some x) : ∃ a n c, v = .slice a n c ∧ n ≤ c ∧ c ≤ maxLen ∧ (n ≤ 1000000 → ∃ l, l.length = n ∧ SlIs w v l) := by
  rcases open_slice_fields Try.underlying26 Try.underlying28 (by kernel_rfl) (by kernel_rfl) h with ⟨hc, _⟩ | ⟨a, len, cap, m, D, Pl, hc, _, hle, hcap, hm, _, hi⟩
  · simp only [List.cons.injEq, and_true] at hc
    subst hc
    exact ⟨none, 0, 0, rfl, Nat.le_refl _, Nat.zero_le _, fun _ => ⟨[], rfl, by simp, .inr ⟨rfl, .inl rfl⟩⟩⟩
  · simp only [List.cons.injEq, and_true] at hc
    subst hc
    refine ⟨some a, len, cap, rfl, hle, hcap, fun hn => ?_⟩
    have hml : len ≤ m := by rw [hm]; split <;> omega
    have hcells : ∀ i, i < len → ∃ v : Vl, w.cell? (a.add (i * 3)) = some (.int .u8 v.k) ∧ w.cell? (a.add (i * 3 + 1)) = some (.int .i64 v.n) ∧ w.cell? (a.add (i * 3 + 2)) = some (.string v.s) := by
      intro i hil
      obtain ⟨ys, n, _, _, _, hf⟩ := hi i (by omega)
      obtain ⟨v0, y0, c0, _, t0⟩ := hf 0 _ rfl
      obtain ⟨v1, y1, c1, _, t1⟩ := hf 1 _ rfl
      obtain ⟨v2, y2, c2, _, t2⟩ := hf 2 _ rfl
      obtain ⟨k, e0, _, _⟩ := DataW.trod_int Try.underlying5 t0
      obtain ⟨q, e1, _, _⟩ := DataW.trod_int Try.underlying2 t1
      obtain ⟨s, e2, _, _⟩ := DataW.trod_string Try.underlying9 t2
      simp only [List.cons.injEq, and_true] at e0 e1 e2
      subst e0 e1 e2
      exact ⟨⟨k, q, s⟩, c0, c1, c2⟩
    obtain ⟨l, hl, hp⟩ := exists_list _ len hcells
    refine ⟨l, hl, by omega, ?_⟩
    by_cases h0 : len = 0
    · subst h0
      exact .inr ⟨List.eq_nil_of_length_eq_zero hl, .inr ⟨a, cap, rfl⟩⟩
    · have hs := spot_none (hp 0 (by omega)).1
      simp only [Nat.zero_mul, Addr.add, if_true] at hs
      refine .inl ⟨a.block, a.off, cap, by rw [hl]; exact congrArg (fun q => Value.slice (some q) len cap) hs, fun i hil => ?_⟩
      have := hp i hil
      rw [hs] at this
      simpa only [Addr.add_lit, Nat.add_assoc] using this

/-- A call of a statement's script: its kind, its template, its id, its values. -/
structure OpD where
  kind : Int
  t : Int
  id : Int
  a : Option Addr
  n : Nat
  c : Nat
  s : List Vl

/-- The struct of the call lies from cell k of block b on. -/
structure OpAt (w : World) (b k : Nat) (o : OpD) : Prop where
  c0 : w.cell? ⟨b, k, none⟩ = some (.int .i64 o.kind)
  c1 : w.cell? ⟨b, k + 1, none⟩ = some (.int .i64 o.t)
  c2 : w.cell? ⟨b, k + 2, none⟩ = some (.int .i64 o.id)
  c3 : w.cell? ⟨b, k + 3, none⟩ = some (.slice o.a o.n o.c)
  s : o.n ≤ 1000000 → o.s.length = o.n ∧ SlIs w (.slice o.a o.n o.c) o.s
  n : o.n ≤ 9223372036854775807

/-- v is a slice of calls. -/
def OpsIs (w : World) (v : Value) (l : List OpD) : Prop :=
  (l.length : Int) ≤ 9223372036854775807 ∧ ((∃ b off cap, v = .slice (some ⟨b, off, none⟩) l.length cap ∧ ∀ i (h : i < l.length), OpAt w b (off + i * 4) l[i]) ∨ (l = [] ∧ (v = .slice none 0 0 ∨ ∃ a cap, v = .slice (some a) 0 cap)))

theorem OpAt.below {w w' : World} {b k : Nat} {o : OpD} (h : OpAt w b k o) (hb : Below w.heap.size w w') : OpAt w' b k o :=
  have hlt : b < w.heap.size := lt_of_cell (p := ⟨b, k, none⟩) h.c0
  have e : ∀ j, w'.cell? ⟨b, j, none⟩ = w.cell? ⟨b, j, none⟩ := fun j => hb.cell (p := ⟨b, j, none⟩) hlt
  ⟨(e _).trans h.c0, (e _).trans h.c1, (e _).trans h.c2, (e _).trans h.c3, fun hn => ⟨(h.s hn).1, (h.s hn).2.only (Only.of_below hb []) (by simp)⟩, h.n⟩

theorem OpsIs.below {w w' : World} {v : Value} {l : List OpD} (h : OpsIs w v l) (hb : Below w.heap.size w w') : OpsIs w' v l := by
  obtain ⟨hl, ⟨b, off, cap, rfl, hi⟩ | h⟩ := h
  · exact ⟨hl, .inl ⟨b, off, cap, rfl, fun i hil => (hi i hil).below hb⟩⟩
  · exact ⟨hl, .inr h⟩

theorem OpsIs.form {w : World} {v : Value} {l : List OpD} (h : OpsIs w v l) : ∃ a c, v = .slice a l.length c := by
  obtain ⟨_, ⟨b, off, cap, rfl, _⟩ | ⟨rfl, rfl | ⟨a, cap, rfl⟩⟩⟩ := h <;> exact ⟨_, _, rfl⟩

set_option maxRecDepth 100000 in
theorem open_ops {H : Type} {enc : TypeId × Value → H} {w : World} {base : Nat} {spare : Nat → Bool} {held : Bool} {v : Value} {d : DataW H} {p : List MemPlace} {r : Reach} {b0 : Nat}
    (hv : Value.okWide Try.prog w r b0 50 v) (h : DataW.Trod enc Try.prog w base spare held 50 v d p) : ∃ l, OpsIs w v l := by
  obtain ⟨a', n', c', rfl⟩ := okWide_slice Try.underlying50 hv
  obtain ⟨fuel, h⟩ := h
  rcases open_slice_fields Try.underlying50 Try.underlying52 (by kernel_rfl) (by kernel_rfl) h with ⟨hc, _⟩ | ⟨a, len, cap, m, D, Pl, hc, _, hle, hcap, hm, _, hi⟩
  · simp only [Value.cells, List.cons.injEq, and_true] at hc
    rw [hc]
    exact ⟨[], by simp, .inr ⟨rfl, .inl rfl⟩⟩
  · simp only [Value.cells, List.cons.injEq, and_true] at hc
    rw [hc]
    have hml : len ≤ m := by rw [hm]; split <;> omega
    unfold maxLen at hcap
    by_cases h0 : len = 0
    · subst h0
      exact ⟨[], by simp, .inr ⟨rfl, .inr ⟨a, cap, rfl⟩⟩⟩
    · have hs : a = ⟨a.block, a.off, none⟩ := by
        obtain ⟨ys, n, _, _, _, hf⟩ := hi 0 (by omega)
        obtain ⟨v0, y0, c0, _, t0⟩ := hf 0 _ rfl
        exact spot_none (by simpa [Addr.add] using c0)
      have hcells : ∀ i, i < len → ∃ o : OpD, OpAt w a.block (a.off + i * 4) o := by
        intro i hil
        obtain ⟨ys, n, _, _, _, hf⟩ := hi i (by omega)
        obtain ⟨v0, y0, c0, _, t0⟩ := hf 0 _ rfl
        obtain ⟨v1, y1, c1, _, t1⟩ := hf 1 _ rfl
        obtain ⟨v2, y2, c2, _, t2⟩ := hf 2 _ rfl
        obtain ⟨v3, y3, c3, _, t3⟩ := hf 3 _ rfl
        obtain ⟨k, e0, _, _⟩ := DataW.trod_int Try.underlying3 t0
        obtain ⟨t, e1, _, _⟩ := DataW.trod_int Try.underlying3 t1
        obtain ⟨id, e2, _, _⟩ := DataW.trod_int Try.underlying3 t2
        obtain ⟨sa, sn, sc, rfl, hsn, hsc, hsl⟩ := open_vals t3
        simp only [List.cons.injEq, and_true] at e0 e1 e2
        subst e0 e1 e2
        rw [hs] at c0 c1 c2 c3
        simp only [Addr.add_lit] at c0 c1 c2 c3
        unfold maxLen at hsc
        by_cases hn : sn ≤ 1000000
        · obtain ⟨l, hl, hsl⟩ := hsl hn
          exact ⟨⟨k, t, id, sa, sn, sc, l⟩, c0, c1, c2, c3, fun _ => ⟨hl, hsl⟩, Nat.le_trans hsn hsc⟩
        · exact ⟨⟨k, t, id, sa, sn, sc, []⟩, c0, c1, c2, c3, fun q => absurd q hn, Nat.le_trans hsn hsc⟩
      obtain ⟨l, hl, hp⟩ := exists_list _ len hcells
      exact ⟨l, by omega, .inl ⟨a.block, a.off, cap, by rw [hl]; exact congrArg (fun q => Value.slice (some q) len cap) hs, hp⟩⟩
end Go.Proofs.Yteealadflekffaa
