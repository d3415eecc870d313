/- Arguments opened: a script of witanlaw27's calls. -/
import Derived.Test.YtelgajgghgknnaaArgsL
namespace Go.Proofs.Ytelgajgghgknnaa
open Go Go.ChangeShapes Go.WideShapes Go.ChangeAt Go.RowKit Go.Deep

set_option maxRecDepth 100000 in
theorem open_acts0 {H : Type} {enc : TypeId × Value → H} {w : World} {base : Nat} {spare : Nat → Bool} {held : Bool} {fuel : Nat} {v : Value} {x : DataW H × List MemPlace}
    (h : DataW.trod enc Try.prog w base spare held fuel 22 [v] = some x) : ∃ l, ActsD w v l := by
  rcases open_slice_fields Try.underlying22 Try.underlying27 (by kernel_rfl) (by kernel_rfl) h with ⟨hc, _⟩ | ⟨a, len, cap, m, D, Pl, hc, _, hle, hcap, hm, _, hi⟩
  · simp only [List.cons.injEq, and_true] at hc
    rw [hc]
    exact ⟨[], ⟨by simp, Nat.le_refl _⟩, .inr ⟨rfl, .inl rfl⟩⟩
  · simp only [List.cons.injEq, and_true] at hc
    rw [hc]
    have hml : len ≤ m := by rw [hm]; split <;> omega
    unfold maxLen at hcap
    by_cases h0 : len = 0
    · subst h0
      exact ⟨[], ⟨by simp, hle⟩, .inr ⟨rfl, .inr ⟨a, cap, rfl⟩⟩⟩
    · have hs : a = ⟨a.block, a.off, none⟩ := by
        obtain ⟨ys, n, _, _, _, hf⟩ := hi 0 (by omega)
        obtain ⟨v0, y0, c0, _, t0⟩ := hf 0 _ rfl
        exact spot_none (by simpa [Addr.add] using c0)
      have hcells : ∀ i, i < len → ∃ o : ActD, ActAt w a.block (a.off + i * 3) o := by
        intro i hil
        obtain ⟨ys, n, _, _, _, hf⟩ := hi i (by omega)
        obtain ⟨v0, y0, c0, _, t0⟩ := hf 0 _ rfl
        obtain ⟨v1, y1, c1, _, t1⟩ := hf 1 _ rfl
        obtain ⟨v2, y2, c2, _, t2⟩ := hf 2 _ rfl
        obtain ⟨k, e0, _, _⟩ := DataW.trod_int Try.underlying3 t0
        obtain ⟨q, e2, _, _⟩ := DataW.trod_int Try.underlying3 t2
        obtain ⟨xa, xn, xc, rfl, hxn, hxl⟩ := open_ints0 t1
        simp only [List.cons.injEq, and_true] at e0 e2
        subst e0 e2
        rw [hs] at c0 c1 c2
        simp only [Addr.add_lit] at c0 c1 c2
        by_cases hn : xn ≤ 1000000
        · obtain ⟨l, hl, hnl⟩ := hxl hn
          exact ⟨⟨k, xa, xn, xc, q, l⟩, c0, c1, c2, hxn, fun _ => ⟨hl, hnl⟩⟩
        · exact ⟨⟨k, xa, xn, xc, q, []⟩, c0, c1, c2, hxn, fun h => absurd h hn⟩
      obtain ⟨l, hl, hp⟩ := exists_list _ len hcells
      exact ⟨l, ⟨by omega, hle⟩, .inl ⟨a.block, a.off, cap, by rw [hl]; exact congrArg (fun q => Value.slice (some q) len cap) hs, hp⟩⟩

/-- A call of the script. -/
structure OpD where
  k : Int
  vg : Value
  G : List ActD
  vc : Value
  C : List ActD
  x : ActD
/-- The call lies from cell o of block b on. -/
structure OpAt (w : World) (b o : Nat) (d : OpD) : Prop where
  c0 : w.cell? ⟨b, o, none⟩ = some (.int .i64 d.k)
  c1 : w.cell? ⟨b, o + 1, none⟩ = some d.vg
  c2 : w.cell? ⟨b, o + 2, none⟩ = some d.vc
  x : ActAt w b (o + 3) d.x
  g : ActsD w d.vg d.G
  c : ActsD w d.vc d.C
def OpsD (w : World) (v : Value) (l : List OpD) : Prop :=
  (l.length : Int) ≤ 9223372036854775807 ∧ ((∃ b off cap, v = .slice (some ⟨b, off, none⟩) l.length cap ∧ ∀ i (h : i < l.length), OpAt w b (off + i * 6) l[i]) ∨ (l = [] ∧ (v = .slice none 0 0 ∨ ∃ a cap, v = .slice (some a) 0 cap)))
theorem OpsD.form {w : World} {v : Value} {l : List OpD} (h : OpsD w v l) : ∃ a c, v = .slice a l.length c := by
  obtain ⟨_, ⟨b, off, cap, rfl, _⟩ | ⟨rfl, rfl | ⟨a, cap, rfl⟩⟩⟩ := h <;> exact ⟨_, _, rfl⟩

set_option maxRecDepth 100000 in
theorem open_ops {H : Type} {enc : TypeId × Value → H} {w : World} {base : Nat} {spare : Nat → Bool} {held : Bool} {v : Value} {d : DataW H} {p : List MemPlace} {r : Reach} {b0 : Nat}
    (hv : Value.okWide Try.prog w r b0 42 v) (h : DataW.Trod enc Try.prog w base spare held 42 v d p) : ∃ l, OpsD w v l := by
  obtain ⟨a', n', c', rfl⟩ := okWide_slice Try.underlying42 hv
  obtain ⟨fuel, h⟩ := h
  rcases open_slice Try.underlying42 h with ⟨hc, _⟩ | ⟨a, len, cap, m, n, D, Pl, hc, hb, hle, hcap, hm, _, hi⟩
  · simp only [Value.cells, List.cons.injEq, and_true] at hc
    rw [hc]
    exact ⟨[], by simp, .inr ⟨rfl, .inl rfl⟩⟩
  · simp only [Value.cells, List.cons.injEq, and_true] at hc
    rw [hc]
    have hml : len ≤ m := by rw [hm]; split <;> omega
    unfold maxLen at hcap
    by_cases h0 : len = 0
    · subst h0
      exact ⟨[], by simp, .inr ⟨rfl, .inr ⟨a, cap, rfl⟩⟩⟩
    · have hcell : ∀ i, i < len → ∃ c0 c1 c2 c3 c4 c5 : Value, (∀ j u, [c0, c1, c2, c3, c4, c5][j]? = some u → w.cell? (a.add (i * 6 + j)) = some u) ∧ ∃ x, DataW.trod enc Try.prog w base spare held n 44 [c0, c1, c2, c3, c4, c5] = some x := by
        intro i hil
        obtain ⟨cs', hcs, ht⟩ := hi i (by omega)
        rw [show Try.prog.cellsOf 44 = 6 from by kernel_rfl] at hcs
        obtain ⟨_, hcl, hat⟩ := World.cells?_some hcs
        match cs', hcl with
        | [c0, c1, c2, c3, c4, c5], _ =>
          refine ⟨c0, c1, c2, c3, c4, c5, fun j u hu => ?_, _, ht⟩
          have hj : j < 6 := by have := (List.getElem?_eq_some_iff.1 hu).1; simpa using this
          have := hat j hj
          rw [← Go.Deep.add_add, this, hu]
      have hs : a = ⟨a.block, a.off, none⟩ := by
        obtain ⟨c0, c1, c2, c3, c4, c5, hat, _⟩ := hcell 0 (by omega)
        exact spot_none (by simpa [Addr.add] using hat 0 c0 rfl)
      have hcells : ∀ i, i < len → ∃ o : OpD, OpAt w a.block (a.off + i * 6) o := by
        intro i hil
        obtain ⟨c0, c1, c2, c3, c4, c5, hat, x, ht⟩ := hcell i hil
        obtain ⟨xs, n1, _, _, _, hxl, hf⟩ := DataW.trod_struct Try.underlying44 ht
        have e1 : Try.prog.cellsOf 3 = 1 := by kernel_rfl
        have e2 : Try.prog.cellsOf 22 = 1 := by kernel_rfl
        have e3 : Try.prog.cellsOf 27 = 3 := by kernel_rfl
        have e4 : Try.prog.cellsOf 25 = 1 := by kernel_rfl
        have hx4 : xs.length = 4 := hxl
        have t0 := (hf 0 _ rfl).trans (List.getElem?_eq_getElem (by omega))
        have t1 := (hf 1 _ rfl).trans (List.getElem?_eq_getElem (by omega))
        have t2 := (hf 2 _ rfl).trans (List.getElem?_eq_getElem (by omega))
        have t3 := (hf 3 _ rfl).trans (List.getElem?_eq_getElem (by omega))
        have t0' : DataW.trod enc Try.prog w base spare held n1 3 [c0] = some xs[0] := by
          have q : List.take (Try.prog.cellsOf 3) (List.drop 0 [c0, c1, c2, c3, c4, c5]) = [c0] := by rw [e1]; rfl
          rw [← q]
          exact t0
        have t1' : DataW.trod enc Try.prog w base spare held n1 22 [c1] = some xs[1] := by
          have q : List.take (Try.prog.cellsOf 22) (List.drop 1 [c0, c1, c2, c3, c4, c5]) = [c1] := by rw [e2]; rfl
          rw [← q]
          exact t1
        have t2' : DataW.trod enc Try.prog w base spare held n1 22 [c2] = some xs[2] := by
          have q : List.take (Try.prog.cellsOf 22) (List.drop 2 [c0, c1, c2, c3, c4, c5]) = [c2] := by rw [e2]; rfl
          rw [← q]
          exact t2
        have t3' : DataW.trod enc Try.prog w base spare held n1 27 [c3, c4, c5] = some xs[3] := by
          have q : List.take (Try.prog.cellsOf 27) (List.drop 3 [c0, c1, c2, c3, c4, c5]) = [c3, c4, c5] := by rw [e3]; rfl
          rw [← q]
          exact t3
        obtain ⟨ys, n2, _, _, _, hyl, hg⟩ := DataW.trod_struct Try.underlying27 t3'
        have hy3 : ys.length = 3 := hyl
        have s0 := (hg 0 _ rfl).trans (List.getElem?_eq_getElem (by omega))
        have s1 := (hg 1 _ rfl).trans (List.getElem?_eq_getElem (by omega))
        have s2 := (hg 2 _ rfl).trans (List.getElem?_eq_getElem (by omega))
        have s0' : DataW.trod enc Try.prog w base spare held n2 3 [c3] = some ys[0] := by
          have q : List.take (Try.prog.cellsOf 3) (List.drop 0 [c3, c4, c5]) = [c3] := by rw [e1]; rfl
          rw [← q]
          exact s0
        have s1' : DataW.trod enc Try.prog w base spare held n2 25 [c4] = some ys[1] := by
          have q : List.take (Try.prog.cellsOf 25) (List.drop 1 [c3, c4, c5]) = [c4] := by rw [e4]; rfl
          rw [← q]
          exact s1
        have s2' : DataW.trod enc Try.prog w base spare held n2 3 [c5] = some ys[2] := by
          have q : List.take (Try.prog.cellsOf 3) (List.drop 2 [c3, c4, c5]) = [c5] := by rw [e1]; rfl
          rw [← q]
          exact s2
        obtain ⟨z0, f0, _, _⟩ := DataW.trod_int Try.underlying3 t0'
        obtain ⟨G, hG⟩ := open_acts0 t1'
        obtain ⟨C, hC⟩ := open_acts0 t2'
        obtain ⟨z3, f3, _, _⟩ := DataW.trod_int Try.underlying3 s0'
        obtain ⟨z5, f5, _, _⟩ := DataW.trod_int Try.underlying3 s2'
        obtain ⟨xa, xn, xc, rfl, hxn, hxl⟩ := open_ints0 s1'
        simp only [List.cons.injEq, and_true] at f0 f3 f5
        subst f0 f3 f5
        have k0 := hat 0 _ rfl
        have k1 := hat 1 _ rfl
        have k2 := hat 2 _ rfl
        have k3 := hat 3 _ rfl
        have k4 := hat 4 _ rfl
        have k5 := hat 5 _ rfl
        rw [hs] at k0 k1 k2 k3 k4 k5
        simp only [Addr.add_lit] at k0 k1 k2 k3 k4 k5
        by_cases hn : xn ≤ 1000000
        · obtain ⟨l, hl, hnl⟩ := hxl hn
          exact ⟨⟨z0, c1, G, c2, C, ⟨z3, xa, xn, xc, z5, l⟩⟩, k0, k1, k2, ⟨k3, k4, k5, hxn, fun _ => ⟨hl, hnl⟩⟩, hG, hC⟩
        · exact ⟨⟨z0, c1, G, c2, C, ⟨z3, xa, xn, xc, z5, []⟩⟩, k0, k1, k2, ⟨k3, k4, k5, hxn, fun h => absurd h hn⟩, hG, hC⟩
      obtain ⟨l, hl, hp⟩ := exists_list _ len hcells
      exact ⟨l, by omega, .inl ⟨a.block, a.off, cap, by rw [hl]; exact congrArg (fun q => Value.slice (some q) len cap) hs, hp⟩⟩
end Go.Proofs.Ytelgajgghgknnaa
