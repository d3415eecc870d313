/- Slices of templates, of values, and a template, opened. -/
import Derived.Test.YteealadflekffaaDoorTmArgs
namespace Go.Proofs.YteealadflekffaaDoor
open Go Go.ChangeShapes Go.WideShapes Go.ChangeAt Go.RowKit Go.Deep Go.Lib

theorem bu8' {n : Int} (h : (Lit.int .u8 n).wf = true) : 0 ≤ n ∧ n ≤ 255 := by
  simp [Lit.wf, IntKind.min, IntKind.max, IntKind.signed, IntKind.bits] at h
  omega

section
variable {H : Type} {enc : TypeId × Value → H} {w : World} {base : Nat} {spare : Nat → Bool} {held : Bool}

/-- A slice of slots: what lies in one cell. -/
theorem open_slots {fuel : Nat} {v : Value} {x : DataW H × List MemPlace} (h : DataW.trod enc Tryd.prog w base spare held fuel 24 [v] = some x) : ∃ a c l, v = .slice a l.length c ∧ SltsIs w a c l := by
  rcases open_slice_fields Tryd.underlying24 Tryd.underlying39 (by kernel_rfl) (by kernel_rfl) h with ⟨hc, _⟩ | ⟨a, len, cap, m, D, Pl, hc, _, hle, hcap, hm, _, hi⟩
  · simp only [List.cons.injEq, and_true] at hc
    subst hc
    exact ⟨none, 0, [], rfl, SlAt.nil w none (by omega), by simp⟩
  · simp only [List.cons.injEq, and_true] at hc
    subst hc
    have hml : len ≤ m := by rw [hm]; split <;> omega
    unfold maxLen at hcap
    have hcells : ∀ i, i < len → ∃ s : Slt, w.cell? (a.add (i * 2)) = some (.string s.n) ∧ w.cell? (a.add (i * 2 + 1)) = some (.int .u8 s.k) ∧ s.ok := by
      intro i hil
      obtain ⟨ys, n, _, _, _, hf⟩ := hi i (by omega)
      obtain ⟨v0, y0, c0, _, t0⟩ := hf 0 _ rfl
      obtain ⟨v1, y1, c1, _, t1⟩ := hf 1 _ rfl
      obtain ⟨s, e0, _, hs⟩ := DataW.trod_string Tryd.underlying9 t0
      obtain ⟨k, e1, _, hk⟩ := DataW.trod_int Tryd.underlying5 t1
      simp only [List.cons.injEq, and_true] at e0 e1
      subst e0 e1
      unfold maxLen at hs
      exact ⟨⟨s, k⟩, c0, c1, (bu8' hk).1, (bu8' hk).2, hs⟩
    obtain ⟨l, hl, hp⟩ := exists_list _ len hcells
    refine ⟨some a, cap, l, by rw [hl], ⟨by omega, hcap, ?_⟩, fun s hs => ?_⟩
    · by_cases h0 : len = 0
      · exact .inr (List.eq_nil_of_length_eq_zero (by omega))
      · have hs := spot_none (hp 0 (by omega)).1
        simp only [Nat.zero_mul, Addr.add, if_true] at hs
        refine .inl ⟨a.block, a.off, by rw [hs], fun i hil j u hu => ?_⟩
        obtain ⟨q0, q1, _⟩ := hp i hil
        rw [hs] at q0 q1
        simp only [Addr.add_lit] at q0 q1
        rcases j with _ | _ | j
        · simp only [Slt.cells, List.getElem?_cons_zero, Option.some.injEq] at hu
          subst hu
          exact q0
        · simp only [Slt.cells, List.getElem?_cons_succ, List.getElem?_cons_zero, Option.some.injEq] at hu
          subst hu
          rw [← Nat.add_assoc] at q1
          exact q1
        · simp [Slt.cells] at hu
    · obtain ⟨i, hil, rfl⟩ := List.getElem_of_mem hs
      exact (hp i hil).2.2

/-- A slice of templates that was handed in. -/
theorem open_tpls {v : Value} {d : DataW H} {p : List MemPlace} {r : Reach} {b0 : Nat} (hv : Value.okWide Tryd.prog w r b0 22 v) (h : DataW.Trod enc Tryd.prog w base spare held 22 v d p) :
    ∃ a c l, v = .slice a l.length c ∧ TplsIs w a c l ∧ (a = none → l.length = 0 ∧ c = 0) := by
  obtain ⟨a', n', c', rfl⟩ := okWide_slice Tryd.underlying22 hv
  obtain ⟨fuel, h⟩ := h
  rcases open_slice_fields Tryd.underlying22 Tryd.underlying26 (by kernel_rfl) (by kernel_rfl) h with ⟨hc, _⟩ | ⟨a, len, cap, m, D, Pl, hc, _, hle, hcap, hm, _, hi⟩
  · simp only [Value.cells, List.cons.injEq, and_true] at hc
    rw [hc]
    exact ⟨none, 0, [], rfl, ⟨SlAt.nil w none (by omega), by simp⟩, fun _ => ⟨rfl, rfl⟩⟩
  · simp only [Value.cells, List.cons.injEq, and_true] at hc
    rw [hc]
    have hml : len ≤ m := by rw [hm]; split <;> omega
    unfold maxLen at hcap
    have hcells : ∀ i, i < len → ∃ t : Tpl, w.cell? (a.add (i * 2)) = some (.string t.name) ∧ w.cell? (a.add (i * 2 + 1)) = some (.slice t.a t.s.length t.c) ∧ TplIs w t := by
      intro i hil
      obtain ⟨ys, n, _, _, _, hf⟩ := hi i (by omega)
      obtain ⟨v0, y0, c0, _, t0⟩ := hf 0 _ rfl
      obtain ⟨v1, y1, c1, _, t1⟩ := hf 1 _ rfl
      obtain ⟨s, e0, _, hs⟩ := DataW.trod_string Tryd.underlying9 t0
      obtain ⟨sa, sc, sl, rfl, hsl⟩ := open_slots t1
      simp only [List.cons.injEq, and_true] at e0
      subst e0
      unfold maxLen at hs
      exact ⟨⟨s, sl, sa, sc⟩, c0, c1, hsl, hs⟩
    obtain ⟨l, hl, hp⟩ := exists_list _ len hcells
    refine ⟨some a, cap, l, by rw [hl], ⟨⟨by omega, hcap, ?_⟩, fun s hs => ?_⟩, fun h => by cases h⟩
    · by_cases h0 : len = 0
      · exact .inr (List.eq_nil_of_length_eq_zero (by omega))
      · have hs := spot_none (hp 0 (by omega)).1
        simp only [Nat.zero_mul, Addr.add, if_true] at hs
        refine .inl ⟨a.block, a.off, by rw [hs], fun i hil j u hu => ?_⟩
        obtain ⟨q0, q1, _⟩ := hp i hil
        rw [hs] at q0 q1
        simp only [Addr.add_lit] at q0 q1
        rcases j with _ | _ | j
        · simp only [Tpl.cells, List.getElem?_cons_zero, Option.some.injEq] at hu
          subst hu
          exact q0
        · simp only [Tpl.cells, Tpl.x, List.getElem?_cons_succ, List.getElem?_cons_zero, Option.some.injEq] at hu
          subst hu
          rw [← Nat.add_assoc] at q1
          exact q1
        · simp [Tpl.cells] at hu
    · obtain ⟨i, hil, rfl⟩ := List.getElem_of_mem hs
      exact (hp i hil).2.2

/-- A slice of values that was handed in. -/
theorem open_vals {v : Value} {d : DataW H} {p : List MemPlace} {r : Reach} {b0 : Nat} (hv : Value.okWide Tryd.prog w r b0 23 v) (h : DataW.Trod enc Tryd.prog w base spare held 23 v d p) :
    ∃ a c l, v = .slice a l.length c ∧ VlsIs w a c l ∧ (a = none → l.length = 0 ∧ c = 0) := by
  obtain ⟨a', n', c', rfl⟩ := okWide_slice Tryd.underlying23 hv
  obtain ⟨fuel, h⟩ := h
  rcases open_slice_fields Tryd.underlying23 Tryd.underlying33 (by kernel_rfl) (by kernel_rfl) h with ⟨hc, _⟩ | ⟨a, len, cap, m, D, Pl, hc, _, hle, hcap, hm, _, hi⟩
  · simp only [Value.cells, List.cons.injEq, and_true] at hc
    rw [hc]
    exact ⟨none, 0, [], rfl, ⟨SlAt.nil w none (by omega), by simp⟩, fun _ => ⟨rfl, rfl⟩⟩
  · simp only [Value.cells, List.cons.injEq, and_true] at hc
    rw [hc]
    have hml : len ≤ m := by rw [hm]; split <;> omega
    unfold maxLen at hcap
    have hcells : ∀ i, i < len → ∃ t : Vl, w.cell? (a.add (i * 3)) = some (.int .u8 t.k) ∧ w.cell? (a.add (i * 3 + 1)) = some (.int .i64 t.n) ∧ w.cell? (a.add (i * 3 + 2)) = some (.string t.s) ∧ t.ok := by
      intro i hil
      obtain ⟨ys, n, _, _, _, hf⟩ := hi i (by omega)
      obtain ⟨v0, y0, c0, _, t0⟩ := hf 0 _ rfl
      obtain ⟨v1, y1, c1, _, t1⟩ := hf 1 _ rfl
      obtain ⟨v2, y2, c2, _, t2⟩ := hf 2 _ rfl
      obtain ⟨k, e0, _, hk⟩ := DataW.trod_int Tryd.underlying5 t0
      obtain ⟨n, e1, _, _⟩ := DataW.trod_int Tryd.underlying2 t1
      obtain ⟨s, e2, _, hs⟩ := DataW.trod_string Tryd.underlying9 t2
      simp only [List.cons.injEq, and_true] at e0 e1 e2
      subst e0 e1 e2
      unfold maxLen at hs
      exact ⟨⟨k, n, s⟩, c0, c1, c2, (bu8' hk).1, (bu8' hk).2, hs⟩
    obtain ⟨l, hl, hp⟩ := exists_list _ len hcells
    refine ⟨some a, cap, l, by rw [hl], ⟨⟨by omega, hcap, ?_⟩, fun s hs => ?_⟩, fun h => by cases h⟩
    · by_cases h0 : len = 0
      · exact .inr (List.eq_nil_of_length_eq_zero (by omega))
      · have hs := spot_none (hp 0 (by omega)).1
        simp only [Nat.zero_mul, Addr.add, if_true] at hs
        refine .inl ⟨a.block, a.off, by rw [hs], fun i hil j u hu => ?_⟩
        obtain ⟨q0, q1, q2, _⟩ := hp i hil
        rw [hs] at q0 q1 q2
        simp only [Addr.add_lit] at q0 q1 q2
        rcases j with _ | _ | _ | j
        · simp only [Vl.cells, List.getElem?_cons_zero, Option.some.injEq] at hu
          subst hu
          exact q0
        · simp only [Vl.cells, List.getElem?_cons_succ, List.getElem?_cons_zero, Option.some.injEq] at hu
          subst hu
          rw [← Nat.add_assoc] at q1
          exact q1
        · simp only [Vl.cells, List.getElem?_cons_succ, List.getElem?_cons_zero, Option.some.injEq] at hu
          subst hu
          rw [← Nat.add_assoc] at q2
          exact q2
        · simp [Vl.cells] at hu
    · obtain ⟨i, hil, rfl⟩ := List.getElem_of_mem hs
      exact (hp i hil).2.2.2

/-- A template by value. -/
theorem open_tpl {v : Value} {d : DataW H} {p : List MemPlace} {r : Reach} {b0 : Nat} (hv : Value.okWide Tryd.prog w r b0 26 v) (h : DataW.Trod enc Tryd.prog w base spare held 26 v d p) :
    ∃ t : Tpl, v = .agg #[.string t.name, .slice t.a t.s.length t.c] ∧ TplIs w t := by
  obtain ⟨v0, v1, y0, y1, n, rfl, _, _, t0, t1⟩ := Joins.open_agg2 Tryd.underlying26 (by kernel_rfl) (by kernel_rfl) hv h
  obtain ⟨s, e0, _, hs⟩ := DataW.trod_string Tryd.underlying9 t0
  obtain ⟨sa, sc, sl, rfl, hsl⟩ := open_slots t1
  simp only [List.cons.injEq, and_true] at e0
  subst e0
  unfold maxLen at hs
  exact ⟨⟨s, sl, sa, sc⟩, rfl, hsl, hs⟩
end
end Go.Proofs.YteealadflekffaaDoor
