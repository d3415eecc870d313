/- Tokens: arguments opened; calls on an arena, all ways in one. -/
import Derived.Test.YtmcajoccfbebiaaTk9
import Derived.Test.YtmcajoccfbebiaaArgs0
namespace Go.Proofs.Ytmcajoccfbebiaa
open Go Go.ChangeShapes Go.WideShapes Go.ChangeAt Go.RowKit Go.Deep Go.MapKept

/-- A call of the script. -/
structure OpT where
  k : Int
  a : Int
  b : Int
  c : Int
structure OpTAt (w : World) (b o : Nat) (d : OpT) : Prop where
  c0 : w.cell? ⟨b, o, none⟩ = some (.int .i64 d.k)
  c1 : w.cell? ⟨b, o + 1, none⟩ = some (.int .i64 d.a)
  c2 : w.cell? ⟨b, o + 2, none⟩ = some (.int .i64 d.b)
  c3 : w.cell? ⟨b, o + 3, none⟩ = some (.int .i64 d.c)
def OpsT (w : World) (v : Value) (l : List OpT) : Prop :=
  (l.length : Int) ≤ 9223372036854775807 ∧ ((∃ b off cap, v = .slice (some ⟨b, off, none⟩) l.length cap ∧ ∀ i (h : i < l.length), OpTAt w b (off + i * 4) l[i]) ∨ (l = [] ∧ (v = .slice none 0 0 ∨ ∃ a cap, v = .slice (some a) 0 cap)))
theorem OpsT.form {w : World} {v : Value} {l : List OpT} (h : OpsT w v l) : ∃ a c, v = .slice a l.length c := by
  obtain ⟨_, ⟨b, off, cap, rfl, _⟩ | ⟨rfl, rfl | ⟨a, cap, rfl⟩⟩⟩ := h <;> exact ⟨_, _, rfl⟩
theorem OpTAt.below {w V : World} {b o : Nat} {d : OpT} (h : OpTAt w b o d) (hb : Below w.heap.size w V) : OpTAt V b o d :=
  have hlt := lt_of_cell h.c0
  ⟨(hb.cell (p := ⟨b, o, none⟩) hlt).trans h.c0, (hb.cell (p := ⟨b, o + 1, none⟩) hlt).trans h.c1, (hb.cell (p := ⟨b, o + 2, none⟩) hlt).trans h.c2, (hb.cell (p := ⟨b, o + 3, none⟩) hlt).trans h.c3⟩
theorem OpsT.below {w V : World} {v : Value} {l : List OpT} (h : OpsT w v l) (hb : Below w.heap.size w V) : OpsT V v l := by
  refine ⟨h.1, ?_⟩
  rcases h.2 with ⟨b, off, cap, e, hi⟩ | q
  · exact .inl ⟨b, off, cap, e, fun i hil => (hi i hil).below hb⟩
  · exact .inr q
theorem OpsT.at {w : World} {v : Value} {l : List OpT} (h : OpsT w v l) {k : Nat} (hk : k < l.length) : ∃ b off cap, v = .slice (some ⟨b, off, none⟩) l.length cap ∧ OpTAt w b (off + k * 4) l[k] := by
  rcases h.2 with ⟨b, off, cap, e, hi⟩ | ⟨rfl, _⟩
  · exact ⟨b, off, cap, e, hi k hk⟩
  · simp at hk

set_option maxRecDepth 100000 in
theorem open_opsT {H : Type} {enc : TypeId × Value → H} {w : World} {base : Nat} {spare : Nat → Bool} {held : Bool} {v : Value} {d : DataW H} {p : List MemPlace} {r : Reach} {b0 : Nat}
    (hv : Value.okWide Try.prog w r b0 22 v) (h : DataW.Trod enc Try.prog w base spare held 22 v d p) : ∃ l, OpsT w v l := by
  obtain ⟨a', n', c', rfl⟩ := okWide_slice Try.underlying22 hv
  obtain ⟨fuel, h⟩ := h
  rcases open_slice_fields Try.underlying22 Try.underlying44 (by kernel_rfl) (by kernel_rfl) h with ⟨hc, _⟩ | ⟨a, len, cap, m, D, Pl, hc, _, hle, hcap, hm, _, hi⟩
  · simp only [Value.cells, List.cons.injEq, and_true] at hc
    rw [hc]
    exact ⟨[], by simp, .inr ⟨rfl, .inl rfl⟩⟩
  · simp only [Value.cells, List.cons.injEq, and_true] at hc
    rw [hc]
    have hml : len ≤ m := by rw [hm]; split <;> omega
    unfold maxLen at hcap
    by_cases h0 : len = 0
    · subst h0
      exact ⟨[], by simp, .inr ⟨rfl, .inr ⟨a, cap, rfl⟩⟩⟩
    · have hs : a = ⟨a.block, a.off, none⟩ := by
        obtain ⟨ys, n, _, _, _, hf⟩ := hi 0 (by omega)
        obtain ⟨v0, y0, c0, _, t0⟩ := hf 0 _ rfl
        exact spot_none (by simpa [Addr.add] using c0)
      have hcells : ∀ i, i < len → ∃ o : OpT, OpTAt w a.block (a.off + i * 4) o := by
        intro i hil
        obtain ⟨ys, n, _, _, _, hf⟩ := hi i (by omega)
        obtain ⟨v0, y0, c0, _, t0⟩ := hf 0 _ rfl
        obtain ⟨v1, y1, c1, _, t1⟩ := hf 1 _ rfl
        obtain ⟨v2, y2, c2, _, t2⟩ := hf 2 _ rfl
        obtain ⟨v3, y3, c3, _, t3⟩ := hf 3 _ rfl
        obtain ⟨k, e0, _, _⟩ := DataW.trod_int Try.underlying3 t0
        obtain ⟨t, e1, _, _⟩ := DataW.trod_int Try.underlying3 t1
        obtain ⟨id, e2, _, _⟩ := DataW.trod_int Try.underlying3 t2
        obtain ⟨q, e3, _, _⟩ := DataW.trod_int Try.underlying3 t3
        simp only [List.cons.injEq, and_true] at e0 e1 e2 e3
        subst e0 e1 e2 e3
        rw [hs] at c0 c1 c2 c3
        simp only [Addr.add_lit] at c0 c1 c2 c3
        exact ⟨⟨k, t, id, q⟩, c0, c1, c2, c3⟩
      obtain ⟨l, hl, hp⟩ := exists_list _ len hcells
      exact ⟨l, by omega, .inl ⟨a.block, a.off, cap, by rw [hl]; exact congrArg (fun q => Value.slice (some q) len cap) hs, hp⟩⟩

/-- An arena that was made behind w0, behind n calls. -/
structure ASt (w0 w : World) (A : Ar) (T : List Tk) (last : Int) (n : Nat) : Prop where
  ar : ArIs w A T last
  tree : TreeOk T last
  le : last ≤ n
  len : T.length ≤ n + 1
  below : Below w0.heap.size w0 w
  foot : ∀ k, A.foot k → w0.heap.size ≤ k
theorem ASt.below' {w0 w V : World} {A : Ar} {T : List Tk} {last : Int} {n : Nat} (h : ASt w0 w A T last n) (hb : Below w.heap.size w V) : ASt w0 V A T last n :=
  ⟨h.ar.below hb, h.tree, h.le, h.len, h.below.trans (hb.mono h.below.size), h.foot⟩
theorem ASt.up {w0 w : World} {A : Ar} {T : List Tk} {last : Int} {n m : Nat} (h : ASt w0 w A T last n) (hn : n ≤ m) : ASt w0 w A T last m :=
  ⟨h.ar, h.tree, by have := h.le; omega, by have := h.len; omega, h.below, h.foot⟩
theorem ASt.other {w0 w V : World} {A : Ar} {T : List Tk} {last : Int} {n : Nat} {S : List Nat} (h : ASt w0 w A T last n) (ho : Only S w V) (hS : ∀ k ∈ S, ¬ A.foot k ∧ w0.heap.size ≤ k) : ASt w0 V A T last n :=
  ⟨h.ar.only ho fun k hk q => (hS k q).1 hk, h.tree, h.le, h.len, below_only h.below ho (fun k hk => (hS k hk).2) h.below.size, h.foot⟩

/-- What a call of Add makes. -/
def addT (T : List Tk) (last p n f : Int) : Option (List Tk) := if (getT T p).isSome && decide (0 ≤ n) && decide (0 ≤ f) then some (T ++ [⟨last + 1, p, n, f⟩]) else none
section
variable {w0 w : World} {A : Ar} {T : List Tk} {last : Int} {k : Nat}
theorem addT_some {T' : List Tk} {p n f : Int} (h : addT T last p n f = some T') : (getT T p).isSome ∧ 0 ≤ n ∧ 0 ≤ f ∧ T' = T ++ [⟨last + 1, p, n, f⟩] := by
  unfold addT at h
  split at h
  · rename_i q
    simp only [Bool.and_eq_true, decide_eq_true_eq] at q
    injection h with h
    exact ⟨q.1.1, q.1.2, q.2, h.symm⟩
  · cases h
/-- What one may turn: its own blocks. -/
structure ATo (w V : World) (A A' : Ar) : Prop where
  a : A'.a = A.a
  only : Only A.all w V
  foot : ∀ k, A'.foot k → A.foot k ∨ w.heap.size ≤ k
theorem ASt.add (h : ASt w0 w A T last k) (hk : k ≤ 800) (p n f : Int) :
    Calls Try.prog 17 #[.pointer (some ⟨A.a, 0, none⟩), .int .i64 p, .int .i64 n, .int .i64 f] w fun e w' => ∃ id er A', e = .returned (.tuple #[.int .i64 id, .int .i64 er]) ∧ ATo w w' A A' ∧
      ((er = 0 ∧ id = last + 1 ∧ ∃ T', addT T last p n f = some T' ∧ ASt w0 w' A' T' (last + 1) (k + 1)) ∨ ((er == 0) = false ∧ id = 0 ∧ addT T last p n f = none ∧ ASt w0 w' A' T last (k + 1))) := by
  have hle := h.le
  have hlen := h.len
  cases hp : getT T p with
  | none =>
    refine (tadd_none h.ar p n f hp).mono ?_
    rintro e w' ⟨rfl, hb⟩
    exact ⟨0, 5, A, rfl, ⟨rfl, Only.of_below hb _, fun _ q => .inl q⟩, .inr ⟨rfl, rfl, by simp [addT, hp], (h.below' hb).up (by omega)⟩⟩
  | some t =>
    by_cases hb : n < 0 ∨ f < 0
    · refine (tadd_bad h.ar p n f hp hb).mono ?_
      rintro e w' ⟨rfl, hbb⟩
      refine ⟨0, 2, A, rfl, ⟨rfl, Only.of_below hbb _, fun _ q => .inl q⟩, .inr ⟨rfl, rfl, ?_, (h.below' hbb).up (by omega)⟩⟩
      unfold addT
      rw [if_neg]
      simp only [Bool.and_eq_true, decide_eq_true_eq]
      omega
    · have hn : 0 ≤ n := by omega
      have hf : 0 ≤ f := by omega
      refine (tadd_ok h.ar p n f hp hn hf h.tree.lst (by omega) (by omega) fun t ht => (h.tree.ge t ht).2).mono ?_
      rintro e w' ⟨rfl, A', hA, hAr, ho, hfo⟩
      refine ⟨_, 0, A', rfl, ⟨hA, ho, hfo⟩, .inl ⟨rfl, rfl, _, ?_, hAr, h.tree.add (by rw [hp]; rfl) hn hf, by omega, by simp; omega, below_only h.below ho (fun k hk => h.foot k (Ar.mem_all.1 hk)) h.below.size, fun k hk => ?_⟩⟩
      · unfold addT
        rw [hp, if_pos (by simp [hn, hf])]
      · rcases hfo k hk with q | q
        · exact h.foot k q
        · have := h.below.size
          omega
theorem ASt.rem (h : ASt w0 w A T last k) (n : Int) :
    Calls Try.prog 13 #[.pointer (some ⟨A.a, 0, none⟩), .int .i64 n] w fun e w' => ∃ v R A', e = .returned v ∧ w'.ownsRow w.heap.size 32 4 v R.length (tflat R) ∧ R.Perm (goneL T last n) ∧ R.Pairwise (fun a b => a.id ≤ b.id) ∧ ATo w w' A A' ∧ ASt w0 w' A' (remT T last n) last k := by
  refine (trem_any h.ar h.tree n).mono ?_
  rintro e w' ⟨v, R, A', rfl, hrow, hp, hs, hA, hAr, ho, hf⟩
  have hl := h.tree.rem_len n
  have := h.len
  exact ⟨v, R, A', rfl, hrow, hp, hs, ⟨hA, ho, fun k hk => .inl (hf k hk)⟩, hAr, h.tree.rem n, h.le, by omega, below_only h.below ho (fun k hk => h.foot k (Ar.mem_all.1 hk)) h.below.size, fun k hk => h.foot k (hf k hk)⟩
end

/-- What a script makes. -/
def stepT (s : List Tk × Int) (o : OpT) : List Tk × Int := if o.k = 1 then match addT s.1 s.2 o.a o.b o.c with
    | some T' => (T', s.2 + 1)
    | none => s
  else (remT s.1 s.2 o.a, s.2)
def runT (l : List OpT) : List Tk × Int := l.foldl stepT ([zeroTk], 0)
theorem runT_take (l : List OpT) {j : Nat} (hj : j < l.length) : runT (l.take (j + 1)) = stepT (runT (l.take j)) l[j] := by
  unfold runT
  rw [List.take_succ_eq_append_getElem hj, List.foldl_append]
  rfl
end Go.Proofs.Ytmcajoccfbebiaa
