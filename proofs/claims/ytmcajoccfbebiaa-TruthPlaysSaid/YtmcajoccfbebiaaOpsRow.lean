/- Rows of witanlaw29's calls; append of any source onto a row of one's own. -/
import Derived.Test.YtmcajoccfbebiaaArgs29
import Derived.Test.YtmcajoccfbebiaaTr12
namespace Go.Proofs.Ytmcajoccfbebiaa
open Go Go.RowKit Go.MapKept Go.Sort

/-- append onto a row of one's own, whether there is something to append or not. -/
theorem wpList_append_any {P : Program} (w : World) {ops : Array Oper} {rest : List Oper} {o : Oper} {a : Act} {Q : Exit → Act → World → Prop} (hgd : o.guard = none) (s x : Operand) (t : TypeId)
    (ho : o.op = .call { callee := .builtin .append, args := #[s, x], argTypes := #[t, t] })
    (base : Nat) (e : TypeId) (i : TypeInfo) (z : Value) (size bytes : Nat) (ht : P.underlying t = some (.slice e)) (hi : P.info? e = some i) (hz : i.zero = some z)
    (hsize : i.size = size) (hby : i.bytes = bytes) (hzs : z.cells.size = size) (hsz : 0 < size)
    (v : Value) (n : Nat) (xs : List Value) (hs : a.eval s = v) (hown : w.ownsRow base e size v n xs)
    (vx : Value) (m : Nat) (news : List Value) (hx : a.eval x = vx) (hsrc : (vx = .slice none 0 0 ∧ m = 0 ∧ news = []) ∨ ∃ ad c, vx = .slice (some ad) m c ∧ news.length = m * size ∧ ∀ j u, news[j]? = some u → w.cell? (ad.add j) = some u)
    (h1 : ∀ u ∈ news, u.oneCell' = true)
    (h63 : n + m ≤ maxLen) (hbytes : (n + m) * bytes ≤ 140737488355328) (hbase : base ≤ w.heap.size)
    (h : ∀ v' w', w'.ownsRow base e size v' (n + m) (xs ++ news) → w.grownBy w' v.ownBlock → wpList P ops Q rest (a.put o.dst v') w') : wpList P ops Q (o :: rest) a w := by
  rcases hsrc with ⟨rfl, rfl, rfl⟩ | ⟨ad, c, rfl, hl, hnews⟩
  · refine wpList_plain hgd fun K hK' => ?_
    have hrun := run_append_owned_none (P := P) w base t o.type e i size ht hi v n xs hown
    unfold Oper.wp
    simp [execOp, ho, resolve, invoke, builtin, hs, hx, hrun, Result.andThen]
    exact hK' _ _ (h _ w (by simpa using hown) (World.grownBy.refl _ _))
  · exact wpList_append_own w hgd s x t ho base e i z size bytes ht hi hz hsize hby hzs hsz v n xs hs hown ad m c news hx hl hnews h1 h63 hbytes hbase fun v' w' h2 h3 _ => h v' w' h2 h3

theorem oinfo : (Try.prog.info? 55).map (fun i => (i.zero, i.size, i.bytes)) = some (some (.agg #[.int .i64 0, .int .i64 0, .int .i64 0, .slice none 0 0]), 4, 48) := by kernel_rfl
theorem oinfo_parts : ∃ i, Try.prog.info? 55 = some i ∧ i.zero = some (.agg #[.int .i64 0, .int .i64 0, .int .i64 0, .slice none 0 0]) ∧ i.size = 4 ∧ i.bytes = 48 := by
  have h := oinfo
  cases hi : Try.prog.info? 55 with
  | none => simp [hi] at h
  | some i =>
    simp [hi] at h
    exact ⟨i, rfl, h.1, h.2.1, h.2.2⟩

/-- The cells of calls. -/
def OpD.cells (d : OpD) : List Value := [.int .i64 d.k, .int .i64 d.id, .int .i64 d.j.r, .slice d.j.a d.j.n d.j.c]
def oflat : List OpD → List Value
  | [] => []
  | d :: l => d.cells ++ oflat l
theorem oflat_append (l m : List OpD) : oflat (l ++ m) = oflat l ++ oflat m := by
  induction l with
  | nil => rfl
  | cons j l ih => simp [oflat, ih]
theorem oflat_length (l : List OpD) : (oflat l).length = l.length * 4 := by
  induction l with
  | nil => rfl
  | cons j l ih => simp [oflat, OpD.cells, ih]; omega
theorem oflat_get (l : List OpD) {i : Nat} (h : i < l.length) {j : Nat} (hj : j < 4) : (oflat l)[i * 4 + j]? = l[i].cells[j]? := by
  induction l generalizing i with
  | nil => simp at h
  | cons d l ih =>
    unfold oflat
    cases i with
    | zero =>
      rw [Nat.zero_mul, Nat.zero_add, List.getElem?_append_left (by simp [OpD.cells]; omega)]
      rfl
    | succ i =>
      rw [List.getElem?_append_right (by simp [OpD.cells]; omega)]
      have e : (i + 1) * 4 + j - d.cells.length = i * 4 + j := by simp [OpD.cells]; omega
      rw [e, ih (by simpa using h)]
      rfl
theorem oflat_one (l : List OpD) : ∀ u ∈ oflat l, u.oneCell' = true := by
  induction l with
  | nil => simp [oflat]
  | cons d l ih =>
    intro u hu
    unfold oflat at hu
    rcases List.mem_append.1 hu with hu | hu
    · unfold OpD.cells at hu
      simp only [List.mem_cons, List.not_mem_nil, or_false] at hu
      rcases hu with rfl | rfl | rfl | rfl <;> rfl
    · exact ih u hu
theorem OpAt.get {w : World} {b o : Nat} {d : OpD} (h : OpAt w b o d) {j : Nat} (hj : j < 4) : w.cell? ⟨b, o + j, none⟩ = d.cells[j]? := by
  match j, hj with
  | 0, _ => exact h.c0
  | 1, _ => exact h.c1
  | 2, _ => exact h.c2
  | 3, _ => exact h.c3
theorem OpsD.src {w : World} {v : Value} {l : List OpD} (h : OpsD w v l) : (v = .slice none 0 0 ∧ l.length = 0 ∧ oflat l = []) ∨ ∃ ad c, v = .slice (some ad) l.length c ∧ (oflat l).length = l.length * 4 ∧ ∀ j u, (oflat l)[j]? = some u → w.cell? (ad.add j) = some u := by
  rcases h.2 with ⟨b, off, cap, rfl, hi⟩ | ⟨rfl, rfl | ⟨a, cap, rfl⟩⟩
  · refine .inr ⟨_, _, rfl, oflat_length l, fun j u hu => ?_⟩
    have hj : j < l.length * 4 := by have := (List.getElem?_eq_some_iff.1 hu).1; rwa [oflat_length] at this
    have e : j = j / 4 * 4 + j % 4 := by omega
    rw [e, oflat_get l (by omega) (by omega)] at hu
    have := (hi (j / 4) (by omega)).get (j := j % 4) (by omega)
    rw [hu] at this
    rw [Addr.add_lit]
    rw [Nat.add_assoc, ← e] at this
    exact this
  · exact .inl ⟨rfl, rfl, rfl⟩
  · exact .inr ⟨a, cap, rfl, rfl, by simp [oflat]⟩
/-- What a call says else: its justification is readable, its id is an int. -/
def OpOk (w : World) (d : OpD) : Prop := JOk w d.j ∧ (Lit.int .i64 d.id).wf = true
theorem OpOk.below {w V : World} {d : OpD} (h : OpOk w d) (hb : Below w.heap.size w V) : OpOk V d := ⟨h.1.below hb, h.2⟩
theorem OpsD.ok {w : World} {v : Value} {l : List OpD} (h : OpsD w v l) : ∀ d ∈ l, OpOk w d := by
  intro d hd
  rcases h.2 with ⟨b, off, cap, rfl, hi⟩ | ⟨rfl, _⟩
  · obtain ⟨i, hil, rfl⟩ := List.getElem_of_mem hd
    exact ⟨(hi i hil).j, (hi i hil).wf⟩
  · cases hd
theorem OpsD.of_row {w : World} {B : Nat} {v : Value} {l : List OpD} (hl : l.length ≤ 1000000) (h : w.ownsRow B 55 4 v l.length (oflat l)) (hok : ∀ d ∈ l, OpOk w d) : OpsD w v l := by
  refine ⟨by omega, ?_⟩
  rcases h.2 with ⟨rfl, h0⟩ | ⟨g, cap, cur, rfl, _⟩
  · have : l = [] := List.eq_nil_of_length_eq_zero (by omega)
    exact .inr ⟨this, .inl rfl⟩
  · refine .inl ⟨g, 0, cap, rfl, fun i hil => ?_⟩
    have hc := h.cells (g := g) rfl
    have hc' : ∀ (j : Nat) u, l[i].cells[j]? = some u → w.cell? ⟨g, i * 4 + j, none⟩ = some u := fun j u hu => by
      have hj : j < 4 := by have := (List.getElem?_eq_some_iff.1 hu).1; simpa [OpD.cells] using this
      have := hc (i * 4 + j) u (by rw [oflat_get l hil hj]; exact hu)
      rwa [Addr.add_lit, Nat.zero_add] at this
    have hk := hok _ (List.getElem_mem hil)
    rw [Nat.zero_add]
    exact ⟨hc' 0 _ rfl, hc' 1 _ rfl, hc' 2 _ rfl, hc' 3 _ rfl, hk.1, hk.2⟩
end Go.Proofs.Ytmcajoccfbebiaa
