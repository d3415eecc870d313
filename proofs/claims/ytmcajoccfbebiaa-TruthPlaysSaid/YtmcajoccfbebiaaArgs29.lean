/- Arguments opened: a justification, and witanlaw29's calls. -/
import Derived.Test.YtmcajoccfbebiaaArgsIN
import Derived.Test.YtmcajoccfbebiaaTr1
import Derived.ChangeSame
namespace Go.Proofs.Ytmcajoccfbebiaa
open Go Go.ChangeShapes Go.WideShapes Go.ChangeAt Go.RowKit Go.Deep

/-- A justification as it may be handed in. -/
structure JD where
  r : Int
  a : Option Addr
  n : Nat
  c : Nat
  t : List Int
def JD.val (j : JD) : Value := .agg #[.int .i64 j.r, .slice j.a j.n j.c]
def JD.jc (j : JD) : Jc := ⟨j.r, j.t, .slice j.a j.n j.c⟩
def JOk (w : World) (j : JD) : Prop := j.n ≤ 9223372036854775807 ∧ (j.n ≤ 1000000 → j.t.length = j.n ∧ NIs w (.slice j.a j.n j.c) j.t)

set_option maxRecDepth 100000 in
theorem open_just {H : Type} {enc : TypeId × Value → H} {w : World} {base : Nat} {spare : Nat → Bool} {held : Bool} {v : Value} {d : DataW H} {p : List MemPlace} {r : Reach} {b0 : Nat}
    (hv : Value.okWide Try.prog w r b0 53 v) (h : DataW.Trod enc Try.prog w base spare held 53 v d p) : ∃ j : JD, v = j.val ∧ JOk w j := by
  obtain ⟨cs, rfl, hcs⟩ := okWide_struct Try.underlying53 hv
  rw [show Try.prog.cellsOf 53 = 2 from by kernel_rfl] at hcs
  obtain ⟨c0, c1, rfl⟩ : ∃ c0 c1, cs = #[c0, c1] := by
    obtain ⟨l⟩ := cs
    match l, hcs with
    | [c0, c1], _ => exact ⟨c0, c1, rfl⟩
  obtain ⟨fuel, h⟩ := h
  obtain ⟨xs, n, _, _, _, hxl, hf⟩ := DataW.trod_struct Try.underlying53 h
  have e1 : Try.prog.cellsOf 3 = 1 := by kernel_rfl
  have e2 : Try.prog.cellsOf 36 = 1 := by kernel_rfl
  have hx2 : xs.length = 2 := hxl
  have t0 := (hf 0 _ rfl).trans (List.getElem?_eq_getElem (by omega))
  have t1 := (hf 1 _ rfl).trans (List.getElem?_eq_getElem (by omega))
  have t0' : DataW.trod enc Try.prog w base spare held n 3 [c0] = some xs[0] := by
    have q : List.take (Try.prog.cellsOf 3) (List.drop 0 (Value.agg #[c0, c1]).cells.toList) = [c0] := by rw [e1]; rfl
    rw [← q]
    exact t0
  have t1' : DataW.trod enc Try.prog w base spare held n 36 [c1] = some xs[1] := by
    have q : List.take (Try.prog.cellsOf 36) (List.drop 1 (Value.agg #[c0, c1]).cells.toList) = [c1] := by rw [e2]; rfl
    rw [← q]
    exact t1
  obtain ⟨z0, f0, _, _⟩ := DataW.trod_int Try.underlying3 t0'
  obtain ⟨a, m, c, f1, hm, hl⟩ := open_ints0 t1'
  simp only [List.cons.injEq, and_true] at f0
  subst f0 f1
  by_cases hn : m ≤ 1000000
  · obtain ⟨l, hl1, hl2⟩ := hl hn
    exact ⟨⟨z0, a, m, c, l⟩, rfl, hm, fun _ => ⟨hl1, hl2⟩⟩
  · exact ⟨⟨z0, a, m, c, []⟩, rfl, hm, fun h => absurd h hn⟩

/-- A call of the script. -/
structure OpD where
  k : Int
  id : Int
  j : JD
/-- The call lies from cell o of block b on. -/
structure OpAt (w : World) (b o : Nat) (d : OpD) : Prop where
  c0 : w.cell? ⟨b, o, none⟩ = some (.int .i64 d.k)
  c1 : w.cell? ⟨b, o + 1, none⟩ = some (.int .i64 d.id)
  c2 : w.cell? ⟨b, o + 2, none⟩ = some (.int .i64 d.j.r)
  c3 : w.cell? ⟨b, o + 3, none⟩ = some (.slice d.j.a d.j.n d.j.c)
  j : JOk w d.j
  wf : (Lit.int .i64 d.id).wf = true
def OpsD (w : World) (v : Value) (l : List OpD) : Prop :=
  (l.length : Int) ≤ 9223372036854775807 ∧ ((∃ b off cap, v = .slice (some ⟨b, off, none⟩) l.length cap ∧ ∀ i (h : i < l.length), OpAt w b (off + i * 4) l[i]) ∨ (l = [] ∧ (v = .slice none 0 0 ∨ ∃ a cap, v = .slice (some a) 0 cap)))
theorem OpsD.form {w : World} {v : Value} {l : List OpD} (h : OpsD w v l) : ∃ a c, v = .slice a l.length c := by
  obtain ⟨_, ⟨b, off, cap, rfl, _⟩ | ⟨rfl, rfl | ⟨a, cap, rfl⟩⟩⟩ := h <;> exact ⟨_, _, rfl⟩
theorem JOk.below {w V : World} {j : JD} (h : JOk w j) (hb : Below w.heap.size w V) : JOk V j := ⟨h.1, fun hn => ⟨(h.2 hn).1, (h.2 hn).2.below hb⟩⟩
theorem OpAt.below {w V : World} {b o : Nat} {d : OpD} (h : OpAt w b o d) (hb : Below w.heap.size w V) : OpAt V b o d :=
  have hlt := lt_of_cell h.c0
  ⟨(hb.cell (p := ⟨b, o, none⟩) hlt).trans h.c0, (hb.cell (p := ⟨b, o + 1, none⟩) hlt).trans h.c1, (hb.cell (p := ⟨b, o + 2, none⟩) hlt).trans h.c2, (hb.cell (p := ⟨b, o + 3, none⟩) hlt).trans h.c3, h.j.below hb, h.wf⟩
theorem OpsD.below {w V : World} {v : Value} {l : List OpD} (h : OpsD w v l) (hb : Below w.heap.size w V) : OpsD V v l := by
  refine ⟨h.1, ?_⟩
  rcases h.2 with ⟨b, off, cap, e, hi⟩ | q
  · exact .inl ⟨b, off, cap, e, fun i hil => (hi i hil).below hb⟩
  · exact .inr q
theorem OpsD.at {w : World} {v : Value} {l : List OpD} (h : OpsD w v l) {k : Nat} (hk : k < l.length) : ∃ b off cap, v = .slice (some ⟨b, off, none⟩) l.length cap ∧ OpAt w b (off + k * 4) l[k] := by
  rcases h.2 with ⟨b, off, cap, e, hi⟩ | ⟨rfl, _⟩
  · exact ⟨b, off, cap, e, hi k hk⟩
  · simp at hk

set_option maxRecDepth 100000 in
theorem open_ops {H : Type} {enc : TypeId × Value → H} {w : World} {base : Nat} {spare : Nat → Bool} {held : Bool} {v : Value} {d : DataW H} {p : List MemPlace} {r : Reach} {b0 : Nat}
    (hv : Value.okWide Try.prog w r b0 48 v) (h : DataW.Trod enc Try.prog w base spare held 48 v d p) : ∃ l, OpsD w v l := by
  obtain ⟨a', n', c', rfl⟩ := okWide_slice Try.underlying48 hv
  obtain ⟨fuel, h⟩ := h
  rcases open_slice Try.underlying48 h with ⟨hc, _⟩ | ⟨a, len, cap, m, n, D, Pl, hc, hb, hle, hcap, hm, _, hi⟩
  · simp only [Value.cells, List.cons.injEq, and_true] at hc
    rw [hc]
    exact ⟨[], by simp, .inr ⟨rfl, .inl rfl⟩⟩
  · simp only [Value.cells, List.cons.injEq, and_true] at hc
    rw [hc]
    have hml : len ≤ m := by rw [hm]; split <;> omega
    unfold maxLen at hcap
    by_cases h0 : len = 0
    · subst h0
      exact ⟨[], by simp, .inr ⟨rfl, .inr ⟨a, cap, rfl⟩⟩⟩
    · have hcell : ∀ i, i < len → ∃ c0 c1 c2 c3 : Value, (∀ j u, [c0, c1, c2, c3][j]? = some u → w.cell? (a.add (i * 4 + j)) = some u) ∧ ∃ x, DataW.trod enc Try.prog w base spare held n 55 [c0, c1, c2, c3] = some x := by
        intro i hil
        obtain ⟨cs', hcs, ht⟩ := hi i (by omega)
        rw [show Try.prog.cellsOf 55 = 4 from by kernel_rfl] at hcs
        obtain ⟨_, hcl, hat⟩ := World.cells?_some hcs
        match cs', hcl with
        | [c0, c1, c2, c3], _ =>
          refine ⟨c0, c1, c2, c3, fun j u hu => ?_, _, ht⟩
          have hj : j < 4 := by have := (List.getElem?_eq_some_iff.1 hu).1; simpa using this
          have := hat j hj
          rw [← Go.Deep.add_add, this, hu]
      have hs : a = ⟨a.block, a.off, none⟩ := by
        obtain ⟨c0, c1, c2, c3, hat, _⟩ := hcell 0 (by omega)
        exact spot_none (by simpa [Addr.add] using hat 0 c0 rfl)
      have hcells : ∀ i, i < len → ∃ o : OpD, OpAt w a.block (a.off + i * 4) o := by
        intro i hil
        obtain ⟨c0, c1, c2, c3, hat, x, ht⟩ := hcell i hil
        obtain ⟨xs, n1, _, _, _, hxl, hf⟩ := DataW.trod_struct Try.underlying55 ht
        have e1 : Try.prog.cellsOf 3 = 1 := by kernel_rfl
        have e3 : Try.prog.cellsOf 53 = 2 := by kernel_rfl
        have e4 : Try.prog.cellsOf 36 = 1 := by kernel_rfl
        have hx3 : xs.length = 3 := hxl
        have t0 := (hf 0 _ rfl).trans (List.getElem?_eq_getElem (by omega))
        have t1 := (hf 1 _ rfl).trans (List.getElem?_eq_getElem (by omega))
        have t2 := (hf 2 _ rfl).trans (List.getElem?_eq_getElem (by omega))
        have t0' : DataW.trod enc Try.prog w base spare held n1 3 [c0] = some xs[0] := by
          have q : List.take (Try.prog.cellsOf 3) (List.drop 0 [c0, c1, c2, c3]) = [c0] := by rw [e1]; rfl
          rw [← q]
          exact t0
        have t1' : DataW.trod enc Try.prog w base spare held n1 3 [c1] = some xs[1] := by
          have q : List.take (Try.prog.cellsOf 3) (List.drop 1 [c0, c1, c2, c3]) = [c1] := by rw [e1]; rfl
          rw [← q]
          exact t1
        have t2' : DataW.trod enc Try.prog w base spare held n1 53 [c2, c3] = some xs[2] := by
          have q : List.take (Try.prog.cellsOf 53) (List.drop 2 [c0, c1, c2, c3]) = [c2, c3] := by rw [e3]; rfl
          rw [← q]
          exact t2
        obtain ⟨ys, n2, _, _, _, hyl, hg⟩ := DataW.trod_struct Try.underlying53 t2'
        have hy2 : ys.length = 2 := hyl
        have s0 := (hg 0 _ rfl).trans (List.getElem?_eq_getElem (by omega))
        have s1 := (hg 1 _ rfl).trans (List.getElem?_eq_getElem (by omega))
        have s0' : DataW.trod enc Try.prog w base spare held n2 3 [c2] = some ys[0] := by
          have q : List.take (Try.prog.cellsOf 3) (List.drop 0 [c2, c3]) = [c2] := by rw [e1]; rfl
          rw [← q]
          exact s0
        have s1' : DataW.trod enc Try.prog w base spare held n2 36 [c3] = some ys[1] := by
          have q : List.take (Try.prog.cellsOf 36) (List.drop 1 [c2, c3]) = [c3] := by rw [e4]; rfl
          rw [← q]
          exact s1
        obtain ⟨z0, f0, _, _⟩ := DataW.trod_int Try.underlying3 t0'
        obtain ⟨z1, f1, _, wf1⟩ := DataW.trod_int Try.underlying3 t1'
        obtain ⟨z2, f2, _, _⟩ := DataW.trod_int Try.underlying3 s0'
        obtain ⟨xa, xn, xc, rfl, hxn, hxl'⟩ := open_ints0 s1'
        simp only [List.cons.injEq, and_true] at f0 f1 f2
        subst f0 f1 f2
        have k0 := hat 0 _ rfl
        have k1 := hat 1 _ rfl
        have k2 := hat 2 _ rfl
        have k3 := hat 3 _ rfl
        rw [hs] at k0 k1 k2 k3
        simp only [Addr.add_lit] at k0 k1 k2 k3
        by_cases hn : xn ≤ 1000000
        · obtain ⟨l, hl, hnl⟩ := hxl' hn
          exact ⟨⟨z0, z1, ⟨z2, xa, xn, xc, l⟩⟩, k0, k1, k2, k3, ⟨hxn, fun _ => ⟨hl, hnl⟩⟩, wf1⟩
        · exact ⟨⟨z0, z1, ⟨z2, xa, xn, xc, []⟩⟩, k0, k1, k2, k3, ⟨hxn, fun h => absurd h hn⟩, wf1⟩
      obtain ⟨l, hl, hp⟩ := exists_list _ len hcells
      exact ⟨l, by omega, .inl ⟨a.block, a.off, cap, by rw [hl]; exact congrArg (fun q => Value.slice (some q) len cap) hs, hp⟩⟩
end Go.Proofs.Ytmcajoccfbebiaa
