/- Arguments that are slices of structs, opened; and that an argument reads as it did where only new blocks have come. -/
import Derived.Test.YteealadflekffaaRow
import Derived.Test.YteealadflekffaaVals
import Derived.Deep.Slices
import Derived.Deep.Fields
namespace Go.Proofs.Yteealadflekffaa
open Go Go.ChangeShapes Go.WideShapes Go.ChangeAt Go.RowKit Go.Deep

section
variable {H : Type} {enc : TypeId × Value → H} {P : Program} {w : World} {base : Nat} {spare : Nat → Bool} {held : Bool}
theorem open_slice_fields {t e : TypeId} {fs : Array Field} {fuel : Nat} {cs : List Value} {x : DataW H × List MemPlace} (ht : P.underlying t = some (.slice e)) (he : P.underlying e = some (.struct fs))
    (hone : oneCellFields P fs = true) (hC : P.cellsOf e = fs.size) (h : DataW.trod enc P w base spare held fuel t cs = some x) :
    (cs = [.slice none 0 0] ∧ x = (.nil, [])) ∨
    ∃ (a : Addr) (len cap m : Nat) (D : Nat → DataW H) (Pl : Nat → List MemPlace), cs = [.slice (some a) len cap] ∧ base ≤ a.block ∧ len ≤ cap ∧ cap ≤ maxLen ∧ m = (if spare a.block then cap else len) ∧
      x = (.slice ((List.range len).map D) ((List.range (m - len)).map fun j => D (len + j)), MemPlace.row a (m * fs.size) ++ (List.range m).flatMap Pl) ∧
      ∀ i, i < m → ∃ (ys : List (DataW H × List MemPlace)) (n : Nat), D i = .agg (ys.map (·.1)) ∧ Pl i = ys.flatMap (·.2) ∧ ys.length = fs.size ∧
        ∀ (j : Nat) (f : Field), fs[j]? = some f → ∃ (v : Value) (y : DataW H × List MemPlace), w.cell? (a.add (i * fs.size + j)) = some v ∧ ys[j]? = some y ∧ DataW.trod enc P w base spare held n f.type [v] = some y := by
  rcases open_slice ht h with h0 | ⟨a, len, cap, m, n, D, Pl, hcs, hb, hl, hm, hmm, hx, hi⟩
  · exact .inl h0
  · refine .inr ⟨a, len, cap, m, D, Pl, hcs, hb, hl, hm, hmm, by rw [hC] at hx; exact hx, fun i him => ?_⟩
    obtain ⟨cs', hc, ht'⟩ := hi i him
    rw [hC] at hc
    obtain ⟨ys, n', hn', hy, hlen, hyl, hf⟩ := DataW.trod_struct he ht'
    obtain ⟨_, hcl, hat⟩ := World.cells?_some hc
    simp only [Prod.mk.injEq] at hy
    refine ⟨ys, n', hy.1, hy.2, hyl, fun j f hj => ?_⟩
    obtain ⟨ho, hk⟩ := hone_of hone j f hj
    have hjl : j < fs.size := (Array.getElem?_eq_some_iff.1 hj).1
    have hcell := hat j hjl
    have hv : cs'[j]? = some (cs'[j]'(by omega)) := List.getElem?_eq_getElem (by omega)
    have h1 := hf j f hj
    rw [ho, hk] at h1
    have hone' : (cs'.drop j).take 1 = [cs'[j]'(by omega)] := by
      rw [List.drop_eq_getElem_cons (by omega)]
      rfl
    rw [hone'] at h1
    have hys : ys[j]? = some (ys[j]'(by omega)) := List.getElem?_eq_getElem (by omega)
    refine ⟨_, _, ?_, hys, h1.trans hys⟩
    rw [← Go.Deep.add_add, hcell, hv]

/-- All arguments read as they did, where only new blocks have come. -/
theorem trodAll_below {W W' : World} (hl : laidOutB P = true) (hb : Below W.heap.size W W') {sp' : Nat → Bool} : ∀ {ts : List TypeId} {vs : List Value} {ds : List (DataW H)} {ps : List MemPlace},
    (∀ t ∈ ts, P.readableRec t = true ∧ t < P.types.size) → DataW.TrodAll enc P W 0 (fun _ => true) true ts vs ds ps → (∀ p ∈ ps, p.block < W.heap.size ∧ sp' p.block = true) → DataW.TrodAll enc P W' 0 sp' true ts vs ds ps
  | [], [], [], _, _, h, _ => h
  | _ :: _, _ :: _, _ :: _, _, hT, ⟨p, q, h1, h2, e⟩, hs => ⟨p, q, WideElems.Trod_stays hl (hT _ (.head _)).1 (hT _ (.head _)).2 h1 (fun x hx => hb.same (hs x (by rw [e]; exact List.mem_append_left _ hx)).1) (fun x hx => (hs x (by rw [e]; exact List.mem_append_left _ hx)).2),
      trodAll_below hl hb (fun t ht => hT t (.tail _ ht)) h2 (fun x hx => hs x (by rw [e]; exact List.mem_append_right _ hx)), e⟩

theorem spot_none {a : Addr} {v : Value} (h : w.cell? a = some v) : a = ⟨a.block, a.off, none⟩ := by
  obtain ⟨b, o, s⟩ := a
  simp only [World.cell?] at h
  cases s with
  | none => rfl
  | some s =>
    simp only [Option.isSome_some, if_true] at h
    cases hh : w.heap[b]? with
    | none => simp [hh] at h
    | some ob => cases ob <;> simp [hh] at h
end

theorem laidB : laidOutB Try.prog = true := by kernel_rfl

theorem exists_list {α : Type} (p : Nat → α → Prop) : ∀ (n : Nat), (∀ i, i < n → ∃ v, p i v) → ∃ l : List α, l.length = n ∧ ∀ i (h : i < l.length), p i l[i]
  | 0, _ => ⟨[], rfl, fun i h => by simp at h⟩
  | n + 1, h => by
    obtain ⟨l, hl, hp⟩ := exists_list p n fun i hi => h i (by omega)
    obtain ⟨v, hv⟩ := h n (by omega)
    refine ⟨l ++ [v], by simp [hl], fun i hi => ?_⟩
    by_cases hin : i < l.length
    · rw [List.getElem_append_left hin]
      exact hp i hin
    · have : i = l.length := by simp at hi; omega
      subst this
      rw [List.getElem_append_right (Nat.le_refl _)]
      simpa [hl] using hv

set_option maxRecDepth 100000 in
/-- A slice of api.Value that was handed in. -/
theorem open_vals {H : Type} {enc : TypeId × Value → H} {w : World} {base : Nat} {spare : Nat → Bool} {held : Bool} {fuel : Nat} {v : Value} {x : DataW H × List MemPlace}
    (h : DataW.trod enc Try.prog w base spare held fuel 26 [v] = some x) : ∃ a n c, v = .slice a n c ∧ n ≤ c ∧ c ≤ maxLen ∧ (n ≤ 1000000 → ∃ l, l.length = n ∧ SlIs w v l) := by
  rcases open_slice_fields Try.underlying26 Try.underlying28 (by kernel_rfl) (by kernel_rfl) h with ⟨hc, _⟩ | ⟨a, len, cap, m, D, Pl, hc, _, hle, hcap, hm, _, hi⟩
  · simp only [List.cons.injEq, and_true] at hc
    subst hc
    exact ⟨none, 0, 0, rfl, Nat.le_refl _, Nat.zero_le _, fun _ => ⟨[], rfl, by simp, .inr ⟨rfl, .inl rfl⟩⟩⟩
  · simp only [List.cons.injEq, and_true] at hc
    subst hc
    refine ⟨some a, len, cap, rfl, hle, hcap, fun hn => ?_⟩
    have hml : len ≤ m := by rw [hm]; split <;> omega
    have hcells : ∀ i, i < len → ∃ v : Vl, w.cell? (a.add (i * 3)) = some (.int .u8 v.k) ∧ w.cell? (a.add (i * 3 + 1)) = some (.int .i64 v.n) ∧ w.cell? (a.add (i * 3 + 2)) = some (.string v.s) := by
      intro i hil
      obtain ⟨ys, n, _, _, _, hf⟩ := hi i (by omega)
      obtain ⟨v0, y0, c0, _, t0⟩ := hf 0 _ rfl
      obtain ⟨v1, y1, c1, _, t1⟩ := hf 1 _ rfl
      obtain ⟨v2, y2, c2, _, t2⟩ := hf 2 _ rfl
      obtain ⟨k, e0, _, _⟩ := DataW.trod_int Try.underlying5 t0
      obtain ⟨q, e1, _, _⟩ := DataW.trod_int Try.underlying2 t1
      obtain ⟨s, e2, _, _⟩ := DataW.trod_string Try.underlying9 t2
      simp only [List.cons.injEq, and_true] at e0 e1 e2
      subst e0 e1 e2
      exact ⟨⟨k, q, s⟩, c0, c1, c2⟩
    obtain ⟨l, hl, hp⟩ := exists_list _ len hcells
    refine ⟨l, hl, by omega, ?_⟩
    by_cases h0 : len = 0
    · subst h0
      exact .inr ⟨List.eq_nil_of_length_eq_zero hl, .inr ⟨a, cap, rfl⟩⟩
    · have hs := spot_none (hp 0 (by omega)).1
      simp only [Nat.zero_mul, Addr.add, if_true] at hs
      refine .inl ⟨a.block, a.off, cap, by rw [hl]; exact congrArg (fun q => Value.slice (some q) len cap) hs, fun i hil => ?_⟩
      have := hp i hil
      rw [hs] at this
      simpa only [Addr.add_lit, Nat.add_assoc] using this

/-- A call of a statement's script: its kind, its template, its id, its values. -/
structure OpD where
  kind : Int
  t : Int
  id : Int
  a : Option Addr
  n : Nat
  c : Nat
  s : List Vl

/-- The struct of the call lies from cell k of block b on. -/
structure OpAt (w : World) (b k : Nat) (o : OpD) : Prop where
  c0 : w.cell? ⟨b, k, none⟩ = some (.int .i64 o.kind)
  c1 : w.cell? ⟨b, k + 1, none⟩ = some (.int .i64 o.t)
  c2 : w.cell? ⟨b, k + 2, none⟩ = some (.int .i64 o.id)
  c3 : w.cell? ⟨b, k + 3, none⟩ = some (.slice o.a o.n o.c)
  s : o.n ≤ 1000000 → o.s.length = o.n ∧ SlIs w (.slice o.a o.n o.c) o.s
  n : o.n ≤ 9223372036854775807

/-- v is a slice of calls. -/
def OpsIs (w : World) (v : Value) (l : List OpD) : Prop :=
  (l.length : Int) ≤ 9223372036854775807 ∧ ((∃ b off cap, v = .slice (some ⟨b, off, none⟩) l.length cap ∧ ∀ i (h : i < l.length), OpAt w b (off + i * 4) l[i]) ∨ (l = [] ∧ (v = .slice none 0 0 ∨ ∃ a cap, v = .slice (some a) 0 cap)))

theorem OpAt.below {w w' : World} {b k : Nat} {o : OpD} (h : OpAt w b k o) (hb : Below w.heap.size w w') : OpAt w' b k o :=
  have hlt : b < w.heap.size := lt_of_cell (p := ⟨b, k, none⟩) h.c0
  have e : ∀ j, w'.cell? ⟨b, j, none⟩ = w.cell? ⟨b, j, none⟩ := fun j => hb.cell (p := ⟨b, j, none⟩) hlt
  ⟨(e _).trans h.c0, (e _).trans h.c1, (e _).trans h.c2, (e _).trans h.c3, fun hn => ⟨(h.s hn).1, (h.s hn).2.only (Only.of_below hb []) (by simp)⟩, h.n⟩

theorem OpsIs.below {w w' : World} {v : Value} {l : List OpD} (h : OpsIs w v l) (hb : Below w.heap.size w w') : OpsIs w' v l := by
  obtain ⟨hl, ⟨b, off, cap, rfl, hi⟩ | h⟩ := h
  · exact ⟨hl, .inl ⟨b, off, cap, rfl, fun i hil => (hi i hil).below hb⟩⟩
  · exact ⟨hl, .inr h⟩

theorem OpsIs.form {w : World} {v : Value} {l : List OpD} (h : OpsIs w v l) : ∃ a c, v = .slice a l.length c := by
  obtain ⟨_, ⟨b, off, cap, rfl, _⟩ | ⟨rfl, rfl | ⟨a, cap, rfl⟩⟩⟩ := h <;> exact ⟨_, _, rfl⟩

set_option maxRecDepth 100000 in
theorem open_ops {H : Type} {enc : TypeId × Value → H} {w : World} {base : Nat} {spare : Nat → Bool} {held : Bool} {v : Value} {d : DataW H} {p : List MemPlace} {r : Reach} {b0 : Nat}
    (hv : Value.okWide Try.prog w r b0 50 v) (h : DataW.Trod enc Try.prog w base spare held 50 v d p) : ∃ l, OpsIs w v l := by
  obtain ⟨a', n', c', rfl⟩ := okWide_slice Try.underlying50 hv
  obtain ⟨fuel, h⟩ := h
  rcases open_slice_fields Try.underlying50 Try.underlying52 (by kernel_rfl) (by kernel_rfl) h with ⟨hc, _⟩ | ⟨a, len, cap, m, D, Pl, hc, _, hle, hcap, hm, _, hi⟩
  · simp only [Value.cells, List.cons.injEq, and_true] at hc
    rw [hc]
    exact ⟨[], by simp, .inr ⟨rfl, .inl rfl⟩⟩
  · simp only [Value.cells, List.cons.injEq, and_true] at hc
    rw [hc]
    have hml : len ≤ m := by rw [hm]; split <;> omega
    unfold maxLen at hcap
    by_cases h0 : len = 0
    · subst h0
      exact ⟨[], by simp, .inr ⟨rfl, .inr ⟨a, cap, rfl⟩⟩⟩
    · have hs : a = ⟨a.block, a.off, none⟩ := by
        obtain ⟨ys, n, _, _, _, hf⟩ := hi 0 (by omega)
        obtain ⟨v0, y0, c0, _, t0⟩ := hf 0 _ rfl
        exact spot_none (by simpa [Addr.add] using c0)
      have hcells : ∀ i, i < len → ∃ o : OpD, OpAt w a.block (a.off + i * 4) o := by
        intro i hil
        obtain ⟨ys, n, _, _, _, hf⟩ := hi i (by omega)
        obtain ⟨v0, y0, c0, _, t0⟩ := hf 0 _ rfl
        obtain ⟨v1, y1, c1, _, t1⟩ := hf 1 _ rfl
        obtain ⟨v2, y2, c2, _, t2⟩ := hf 2 _ rfl
        obtain ⟨v3, y3, c3, _, t3⟩ := hf 3 _ rfl
        obtain ⟨k, e0, _, _⟩ := DataW.trod_int Try.underlying3 t0
        obtain ⟨t, e1, _, _⟩ := DataW.trod_int Try.underlying3 t1
        obtain ⟨id, e2, _, _⟩ := DataW.trod_int Try.underlying3 t2
        obtain ⟨sa, sn, sc, rfl, hsn, hsc, hsl⟩ := open_vals t3
        simp only [List.cons.injEq, and_true] at e0 e1 e2
        subst e0 e1 e2
        rw [hs] at c0 c1 c2 c3
        simp only [Addr.add_lit] at c0 c1 c2 c3
        unfold maxLen at hsc
        by_cases hn : sn ≤ 1000000
        · obtain ⟨l, hl, hsl⟩ := hsl hn
          exact ⟨⟨k, t, id, sa, sn, sc, l⟩, c0, c1, c2, c3, fun _ => ⟨hl, hsl⟩, Nat.le_trans hsn hsc⟩
        · exact ⟨⟨k, t, id, sa, sn, sc, []⟩, c0, c1, c2, c3, fun q => absurd q hn, Nat.le_trans hsn hsc⟩
      obtain ⟨l, hl, hp⟩ := exists_list _ len hcells
      exact ⟨l, by omega, .inl ⟨a.block, a.off, cap, by rw [hl]; exact congrArg (fun q => Value.slice (some q) len cap) hs, hp⟩⟩
end Go.Proofs.Yteealadflekffaa
