/- num (the document's): Quo. -/
import Derived.Test.YtgfakdobajgnfaaGreatDoorNm6
import Derived.Deep.RegionLaw
namespace Go.Proofs.YtgfakdobajgnfaaGreatDoor
open Go Go.RowKit Go.Lib

/-- append of digits onto a row of one's own, at a step of a region that draws. -/
theorem step_append_dg {P : Program} {ops : Array Oper} {o : Oper} {a : Act} {w : World} {K : Act → World → Prop} {Q : Exit → Act → World → Prop} {E : Prop} (hgd : o.guard = none) (s x : Operand) (t : TypeId)
    (ho : o.op = .call { callee := .builtin .append, args := #[s, x], argTypes := #[t, t] })
    (base : Nat) (i : TypeInfo) (ht : P.underlying t = some (.slice 3)) (hi : P.info? 3 = some i) (hz : i.zero = some (.int .i64 0))
    (hsize : i.size = 1) (hby : i.bytes = 8)
    (v : Value) (n : Nat) (xs : List Value) (hs : a.eval s = v) (hown : w.ownsRow base 3 1 v n xs)
    (vx : Value) (l : List Nat) (hx : a.eval x = vx) (hl : DgRd w vx l)
    (h63 : n + l.length ≤ 2000000) (hbase : base ≤ w.heap.size)
    (h : ∀ v' w', w'.ownsRow base 3 1 v' (n + l.length) (xs ++ dnums l) → w.grownBy w' v.ownBlock → K (a.put o.dst v') w') :
    if Region.wanted o (yielded ops a.tmps) = true then Oper.wp P o a w K Q else E := by
  have hw : Region.wanted o (yielded ops a.tmps) = true := by simp [Region.wanted, hgd]
  rw [if_pos hw]
  obtain ⟨h1, a0, c, rfl, h3, h4⟩ := hl
  have hone : ∀ u ∈ dnums l, u.oneCell' = true := fun u hu => by
    obtain ⟨k, _, rfl⟩ := List.mem_map.1 hu
    rfl
  cases a0 with
  | some ad =>
    refine wp_append_own w s x t ho base 3 i (.int .i64 0) 1 8 ht hi hz hsize hby rfl (by decide) v n xs hs hown ad l.length c (dnums l) hx (by simp [dnums]) (fun j u hu => ?_) hone (by unfold maxLen; omega) (by omega) hbase fun v' w' h2 h3 _ => h v' w' h2 h3
    obtain ⟨hj, he⟩ := List.getElem?_eq_some_iff.1 hu
    obtain ⟨b, off, e, hc⟩ := h4 j (by simpa [dnums] using hj)
    injection e with e
    subst e
    rw [Addr.add_lit, hc, ← he]
    simp [dnums]
  | none =>
    have h0 : l = [] := by
      cases l with
      | nil => rfl
      | cons y ys =>
        obtain ⟨b, off, e, _⟩ := h4 0 (by simp)
        cases e
    subst h0
    have hrun : (Builtin.append_ #[t, t] o.type #[v, .slice none 0 c]).run P w = .ok v w := by
      rcases hown.2 with ⟨rfl, rfl⟩ | ⟨g, cap, cur, rfl, _, _, hnc, _⟩
      · simp [Builtin.append_, run_underlying ht, sizeOf, typeInfo, hi, Builtin.lenOf, Builtin.firstCells]
      · simp [Builtin.append_, run_underlying ht, sizeOf, typeInfo, hi, Builtin.lenOf, Builtin.firstCells, hnc, storeCells]
    unfold Oper.wp
    simp [execOp, ho, resolve, invoke, builtin, hs, hx, hrun, Result.andThen]
    exact h v w (by simpa [dnums] using hown) ⟨rfl, rfl, rfl, Nat.le_refl _, fun _ _ _ => rfl⟩
/-- What a walk of Quo has: both numbers' boxes, the results', both without signs (p, q), the row (M) and what is left (R). -/
structure QuAt (w wr : World) (bx by' : Bool) (sx sy : Value) (p q M R : Nat) (qs : List Nat) (rs : Value) : Prop where
  x : wr.heap[w.heap.size]? = some (.cells #[.bool bx, sx] 79 (0, 0))
  y : wr.heap[w.heap.size + 1]? = some (.cells #[.bool by', sy] 79 (0, 0))
  z1 : wr.heap[w.heap.size + 2]? = some (.cells #[.bool false, .slice none 0 0] 79 (0, 0))
  z2 : wr.heap[w.heap.size + 3]? = some (.cells #[.bool false, .slice none 0 0] 79 (0, 0))
  pa : wr.heap[p]? = some (.cells #[.bool false, sx] 79 (0, 0))
  qb : wr.heap[q]? = some (.cells #[.bool false, sy] 79 (0, 0))
  row : wr.heap[M]? = some (.cells (dnums qs).toArray 3 (0, 0))
  rb : wr.heap[R]? = some (.cells #[.bool false, rs] 79 (0, 0))
  pM : p < M
  qM : q < M
  zM : w.heap.size + 3 < M
  MR : M < R
  bel : Below w.heap.size w wr
theorem QuAt.below {w wr V : World} {bx by' : Bool} {sx sy : Value} {p q M R : Nat} {qs : List Nat} {rs : Value} (h : QuAt w wr bx by' sx sy p q M R qs rs) (hb : Below wr.heap.size wr V) : QuAt w V bx by' sx sy p q M R qs rs :=
  ⟨(hb.block _ (lt_of_heap h.x)).trans h.x, (hb.block _ (lt_of_heap h.y)).trans h.y, (hb.block _ (lt_of_heap h.z1)).trans h.z1, (hb.block _ (lt_of_heap h.z2)).trans h.z2, (hb.block _ (lt_of_heap h.pa)).trans h.pa, (hb.block _ (lt_of_heap h.qb)).trans h.qb, (hb.block _ (lt_of_heap h.row)).trans h.row, (hb.block _ (lt_of_heap h.rb)).trans h.rb, h.pM, h.qM, h.zM, h.MR, h.bel.trans (hb.mono h.bel.size)⟩
theorem QuAt.store {w wr : World} {bx by' : Bool} {sx sy : Value} {p q M R : Nat} {qs : List Nat} {rs : Value} (h : QuAt w wr bx by' sx sy p q M R qs rs) (u : Value) : QuAt w ((wr.setCell ⟨R, 0, none⟩ (.bool false)).setCell ⟨R, 1, none⟩ u) bx by' sx sy p q M R qs u := by
  have h1 := h.pM
  have h2 := h.qM
  have h3 := h.zM
  have h4 := h.MR
  have hk : ∀ k, k < R → ((wr.setCell ⟨R, 0, none⟩ (.bool false)).setCell ⟨R, 1, none⟩ u).heap[k]? = wr.heap[k]? := fun k hk => by
    rw [Below.heap_setCell _ _ _ _ (by simp; omega), Below.heap_setCell _ _ _ _ (by simp; omega)]
  exact ⟨(hk _ (by omega)).trans h.x, (hk _ (by omega)).trans h.y, (hk _ (by omega)).trans h.z1, (hk _ (by omega)).trans h.z2, (hk _ (by omega)).trans h.pa, (hk _ (by omega)).trans h.qb, (hk _ (by omega)).trans h.row, two_set h.rb false u, h1, h2, h3, h4, (h.bel.setCell (p := ⟨R, 0, none⟩) (by simp; omega) _).setCell (p := ⟨R, 1, none⟩) (by simp; omega) _⟩
theorem QuAt.set {w wr : World} {bx by' : Bool} {sx sy : Value} {p q M R : Nat} {qs : List Nat} {rs : Value} (h : QuAt w wr bx by' sx sy p q M R qs rs) (i d : Nat) : QuAt w (wr.setCell ⟨M, i, none⟩ (.int .i64 (d : Int))) bx by' sx sy p q M R (qs.set i d) rs := by
  have h1 := h.pM
  have h2 := h.qM
  have h3 := h.zM
  have h4 := h.MR
  have hk : ∀ k, k ≠ M → (wr.setCell ⟨M, i, none⟩ (.int .i64 (d : Int))).heap[k]? = wr.heap[k]? := fun k hk => Below.heap_setCell _ _ _ _ (by simpa using hk)
  refine ⟨(hk _ (by omega)).trans h.x, (hk _ (by omega)).trans h.y, (hk _ (by omega)).trans h.z1, (hk _ (by omega)).trans h.z2, (hk _ (by omega)).trans h.pa, (hk _ (by omega)).trans h.qb, ?_, (hk _ (by omega)).trans h.rb, h1, h2, h3, h4, h.bel.setCell (p := ⟨M, i, none⟩) (by simp; omega) _⟩
  simp only [World.setCell, Array.getElem?_modify, h.row]
  simp [dnums, List.map_set]
theorem QuAt.digits {w wr : World} {bx by' : Bool} {sx sy : Value} {p q M R : Nat} {qs : List Nat} {rs : Value} (h : QuAt w wr bx by' sx sy p q M R qs rs) (hl : qs.length ≤ 1000000) : (∀ i, wr.frozen? ⟨M, i, none⟩ = false) ∧ DgRd wr (.slice (some ⟨M, 0, none⟩) qs.length qs.length) qs :=
  ⟨fun i => by simp only [World.frozen?, h.row]; simp, hl, some ⟨M, 0, none⟩, qs.length, rfl, Nat.le_refl _, fun i hi => ⟨M, 0, rfl, by
    simp only [World.cell?, h.row]
    simp [dnums, hi]⟩⟩
set_option maxRecDepth 100000 in
theorem make_cells (n : Nat) (hn : n ≤ 1000000) (w : World) : ∃ w', (Instr.makeSlice 41 (.int .i64 (n : Int)) (.int .i64 (n : Int))).run Tryz.prog w = .ok (.slice (some ⟨w.heap.size, 0, none⟩) n n) w' ∧ Below w.heap.size w w' ∧ w'.heap[w.heap.size]? = some (.cells (dnums (List.replicate n 0)).toArray 3 (0, 0)) := by
  obtain ⟨w', hrun, hb, hown⟩ := make_row n hn w
  refine ⟨w', hrun, hb, ?_⟩
  rcases hown.2 with ⟨e, _⟩ | ⟨g, cap, cur, e, _, hgb, _, _, hcs, hct⟩
  · cases e
  · injection e with e1 _ e3
    injection e1 with e1
    injection e1 with e1
    subst e1
    subst e3
    rw [hgb]
    congr 2
    apply Array.ext'
    rw [List.take_of_length_le (by rw [Array.length_toList, hcs]; omega)] at hct
    rw [hct]
/-- Six boxes. -/
theorem six_boxes (w : World) (b1 b2 b3 b4 b5 b6 : Bool) (s1 s2 s3 s4 s5 s6 : Value) (t : TypeId) (W : World) (hW : ((((((w.alloc (.cells #[.bool b1, s1] t)).alloc (.cells #[.bool b2, s2] t)).alloc (.cells #[.bool b3, s3] t)).alloc (.cells #[.bool b4, s4] t)).alloc (.cells #[.bool b5, s5] t)).alloc (.cells #[.bool b6, s6] t)).drew = W) :
    W.heap[w.heap.size]? = some (.cells #[.bool b1, s1] t (0, 0)) ∧ W.heap[w.heap.size + 1]? = some (.cells #[.bool b2, s2] t (0, 0)) ∧ W.heap[w.heap.size + 2]? = some (.cells #[.bool b3, s3] t (0, 0)) ∧ W.heap[w.heap.size + 3]? = some (.cells #[.bool b4, s4] t (0, 0)) ∧ W.heap[w.heap.size + 4]? = some (.cells #[.bool b5, s5] t (0, 0)) ∧ W.heap[w.heap.size + 5]? = some (.cells #[.bool b6, s6] t (0, 0)) ∧ W.heap.size = w.heap.size + 6 ∧ Below w.heap.size w W := by
  subst hW
  obtain ⟨W1, h1⟩ : ∃ V, w.alloc (.cells #[.bool b1, s1] t) = V := ⟨_, rfl⟩
  have z1 : W1.heap.size = w.heap.size + 1 := by rw [← h1]; simp
  have e1 : W1.heap[w.heap.size]? = some (.cells #[.bool b1, s1] t (0, 0)) := by rw [← h1]; exact heap_alloc0 _ _
  have k1 : ∀ j, j < w.heap.size → W1.heap[j]? = w.heap[j]? := fun j hj => by rw [← h1]; exact Below.heap_alloc _ _ _ hj
  have b1' : Below w.heap.size w W1 := by rw [← h1]; exact (Below.refl _ w).alloc (by omega) _
  obtain ⟨W2, h2⟩ : ∃ V, W1.alloc (.cells #[.bool b2, s2] t) = V := ⟨_, rfl⟩
  have z2 : W2.heap.size = w.heap.size + 2 := by rw [← h2]; simp [z1]
  have e2 : W2.heap[w.heap.size + 1]? = some (.cells #[.bool b2, s2] t (0, 0)) := by rw [← h2, ← z1]; exact heap_alloc0 _ _
  have k2 : ∀ j, j < W1.heap.size → W2.heap[j]? = W1.heap[j]? := fun j hj => by rw [← h2]; exact Below.heap_alloc _ _ _ hj
  have b2' : Below w.heap.size w W2 := by rw [← h2]; exact b1'.alloc (by omega) _
  obtain ⟨W3, h3⟩ : ∃ V, W2.alloc (.cells #[.bool b3, s3] t) = V := ⟨_, rfl⟩
  have z3 : W3.heap.size = w.heap.size + 3 := by rw [← h3]; simp [z2]
  have e3 : W3.heap[w.heap.size + 2]? = some (.cells #[.bool b3, s3] t (0, 0)) := by rw [← h3, ← z2]; exact heap_alloc0 _ _
  have k3 : ∀ j, j < W2.heap.size → W3.heap[j]? = W2.heap[j]? := fun j hj => by rw [← h3]; exact Below.heap_alloc _ _ _ hj
  have b3' : Below w.heap.size w W3 := by rw [← h3]; exact b2'.alloc (by omega) _
  obtain ⟨W4, h4⟩ : ∃ V, W3.alloc (.cells #[.bool b4, s4] t) = V := ⟨_, rfl⟩
  have z4 : W4.heap.size = w.heap.size + 4 := by rw [← h4]; simp [z3]
  have e4 : W4.heap[w.heap.size + 3]? = some (.cells #[.bool b4, s4] t (0, 0)) := by rw [← h4, ← z3]; exact heap_alloc0 _ _
  have k4 : ∀ j, j < W3.heap.size → W4.heap[j]? = W3.heap[j]? := fun j hj => by rw [← h4]; exact Below.heap_alloc _ _ _ hj
  have b4' : Below w.heap.size w W4 := by rw [← h4]; exact b3'.alloc (by omega) _
  obtain ⟨W5, h5⟩ : ∃ V, W4.alloc (.cells #[.bool b5, s5] t) = V := ⟨_, rfl⟩
  have z5 : W5.heap.size = w.heap.size + 5 := by rw [← h5]; simp [z4]
  have e5 : W5.heap[w.heap.size + 4]? = some (.cells #[.bool b5, s5] t (0, 0)) := by rw [← h5, ← z4]; exact heap_alloc0 _ _
  have k5 : ∀ j, j < W4.heap.size → W5.heap[j]? = W4.heap[j]? := fun j hj => by rw [← h5]; exact Below.heap_alloc _ _ _ hj
  have b5' : Below w.heap.size w W5 := by rw [← h5]; exact b4'.alloc (by omega) _
  obtain ⟨W6, h6⟩ : ∃ V, W5.alloc (.cells #[.bool b6, s6] t) = V := ⟨_, rfl⟩
  have z6 : W6.heap.size = w.heap.size + 6 := by rw [← h6]; simp [z5]
  have e6 : W6.heap[w.heap.size + 5]? = some (.cells #[.bool b6, s6] t (0, 0)) := by rw [← h6, ← z5]; exact heap_alloc0 _ _
  have k6 : ∀ j, j < W5.heap.size → W6.heap[j]? = W5.heap[j]? := fun j hj => by rw [← h6]; exact Below.heap_alloc _ _ _ hj
  have b6' : Below w.heap.size w W6 := by rw [← h6]; exact b5'.alloc (by omega) _
  rw [h1, h2, h3, h4, h5, h6]
  exact ⟨((k6 _ (by omega)).trans ((k5 _ (by omega)).trans ((k4 _ (by omega)).trans ((k3 _ (by omega)).trans ((k2 _ (by omega)).trans e1))))), ((k6 _ (by omega)).trans ((k5 _ (by omega)).trans ((k4 _ (by omega)).trans ((k3 _ (by omega)).trans e2)))), ((k6 _ (by omega)).trans ((k5 _ (by omega)).trans ((k4 _ (by omega)).trans e3))), ((k6 _ (by omega)).trans ((k5 _ (by omega)).trans e4)), ((k6 _ (by omega)).trans e5), e6, z6, b6'.drew⟩
/-- The six boxes of Quo, in whichever order. -/
structure QuPre (w W : World) (bx by' : Bool) (sx sy : Value) (p q : Nat) : Prop where
  x : W.heap[w.heap.size]? = some (.cells #[.bool bx, sx] 79 (0, 0))
  y : W.heap[w.heap.size + 1]? = some (.cells #[.bool by', sy] 79 (0, 0))
  z1 : W.heap[w.heap.size + 2]? = some (.cells #[.bool false, .slice none 0 0] 79 (0, 0))
  z2 : W.heap[w.heap.size + 3]? = some (.cells #[.bool false, .slice none 0 0] 79 (0, 0))
  pa : W.heap[p]? = some (.cells #[.bool false, sx] 79 (0, 0))
  qb : W.heap[q]? = some (.cells #[.bool false, sy] 79 (0, 0))
  bel : Below w.heap.size w W
theorem QuPre.at {w W W2 : World} {bx by' : Bool} {sx sy : Value} {p q n : Nat} (h : QuPre w W bx by' sx sy p q) (hb : Below W.heap.size W W2) (hr : W2.heap[W.heap.size]? = some (.cells (dnums (List.replicate n 0)).toArray 3 (0, 0))) :
    QuAt w (W2.alloc (.cells #[.bool false, .slice none 0 0] 79)) bx by' sx sy p q W.heap.size W2.heap.size (List.replicate n 0) (.slice none 0 0) := by
  have h2 : Below W2.heap.size W2 (W2.alloc (.cells #[.bool false, .slice none 0 0] 79)) := (Below.refl _ _).alloc (Nat.le_refl _) _
  have hk : ∀ k o, W.heap[k]? = some o → (W2.alloc (.cells #[.bool false, .slice none 0 0] 79)).heap[k]? = some o := fun k o hk => by
    have h3 := (hb.block _ (lt_of_heap hk)).trans hk
    exact (h2.block _ (lt_of_heap h3)).trans h3
  exact ⟨hk _ _ h.x, hk _ _ h.y, hk _ _ h.z1, hk _ _ h.z2, hk _ _ h.pa, hk _ _ h.qb, (h2.block _ (lt_of_heap hr)).trans hr, heap_alloc0 _ _, lt_of_heap h.pa, lt_of_heap h.qb, lt_of_heap h.z2, lt_of_heap hr, (h.bel.trans (hb.mono h.bel.size)).trans (h2.mono (Nat.le_trans h.bel.size hb.size))⟩
/-- How far the quotient is. -/
structure QuRel (xs : List Nat) (Y j r : Nat) (qs : List Nat) : Prop where
  le : j ≤ xs.length
  r : r = nv (xs.drop j) % Y
  q : ∃ qd, qs = List.replicate j 0 ++ qd ∧ qd.length + j = xs.length ∧ okD qd ∧ nv qd = nv (xs.drop j) / Y
theorem QuRel.zero (xs : List Nat) (Y : Nat) : QuRel xs Y xs.length 0 (List.replicate xs.length 0) :=
  ⟨Nat.le_refl _, by rw [List.drop_length]; simp [nv], [], by simp, by simp, fun _ h => (by cases h), by rw [List.drop_length]; simp [nv]⟩
theorem QuRel.len {xs : List Nat} {Y j r : Nat} {qs : List Nat} (h : QuRel xs Y j r qs) : qs.length = xs.length := by
  obtain ⟨qd, rfl, h2, _⟩ := h.q
  rw [List.length_append, List.length_replicate]
  omega
theorem qu_div {Y d x V : Nat} (hY : 0 < Y) (h1 : d * Y ≤ x + 10000 * (V % Y)) (h2 : x + 10000 * (V % Y) < (d + 1) * Y) : (x + 10000 * V) / Y = d + 10000 * (V / Y) ∧ (x + 10000 * V) % Y = x + 10000 * (V % Y) - d * Y := by
  have hV := Nat.div_add_mod V Y
  have e : x + 10000 * V = (x + 10000 * (V % Y) - d * Y) + Y * (d + 10000 * (V / Y)) := by
    rw [Nat.mul_add, Nat.mul_comm Y d, Nat.mul_left_comm]
    have : 10000 * V = 10000 * (Y * (V / Y)) + 10000 * (V % Y) := by rw [← Nat.mul_add, hV]
    omega
  have hlt : x + 10000 * (V % Y) - d * Y < Y := by
    rw [Nat.add_mul, Nat.one_mul] at h2
    omega
  rw [e]
  constructor
  · rw [Nat.add_mul_div_left _ _ hY, Nat.div_eq_of_lt hlt, Nat.zero_add]
  · rw [Nat.add_mul_mod_self_left, Nat.mod_eq_of_lt hlt]
theorem QuRel.step {xs : List Nat} {Y m r d : Nat} {qs : List Nat} (h : QuRel xs Y (m + 1) r qs) (hY : 0 < Y) (hm : m < xs.length) (hd : d < 10000) (h1 : d * Y ≤ xs[m] + 10000 * r) (h2 : xs[m] + 10000 * r < (d + 1) * Y) : QuRel xs Y m (xs[m] + 10000 * r - d * Y) (qs.set m d) := by
  have hr := h.r
  obtain ⟨qd, rfl, e2, e3, e4⟩ := h.q
  rw [hr] at h1 h2
  obtain ⟨k1, k2⟩ := qu_div hY h1 h2
  refine ⟨by omega, by rw [nv_drop_cons hm, k2, hr], d :: qd, ?_, by simp; omega, fun x hx => ?_, by rw [nv, nv_drop_cons hm, k1, e4]⟩
  · rw [List.replicate_succ', List.append_assoc, List.set_append_right _ _ (by simp)]
    simp
  · rcases List.mem_cons.1 hx with rfl | hx
    · exact hd
    · exact e3 x hx
theorem QuRel.lt {xs : List Nat} {Y j r : Nat} {qs : List Nat} (h : QuRel xs Y j r qs) (hY : 0 < Y) : r < Y := by rw [h.r]; exact Nat.mod_lt _ hY
theorem QuRel.done {xs : List Nat} {Y r : Nat} {qs : List Nat} (h : QuRel xs Y 0 r qs) : okD qs ∧ nv qs = nv xs / Y ∧ r = nv xs % Y := by
  obtain ⟨qd, rfl, e2, e3, e4⟩ := h.q
  exact ⟨by simpa using e3, by simpa using e4, by simpa using h.r⟩
end Go.Proofs.YtgfakdobajgnfaaGreatDoor
