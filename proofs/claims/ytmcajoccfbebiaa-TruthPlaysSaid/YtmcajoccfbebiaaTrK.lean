/- witanlaw29's known: a chain; a ring. -/
import Derived.Test.YtmcajoccfbebiaaTr9
import Derived.Test.YtmcajoccfbebiaaRowsN
import Derived.Test.YtmcajoccfbebiaaLawN
namespace Go.Proofs.Ytmcajoccfbebiaa
open Go Go.RowKit Go.MapKept Go.Sort

/-- A store into another book's map leaves this one. -/
theorem BookIs.other {w w' : World} {b m m' : Nat} {M : List Sp} {l' : List (Int × Value)} (h : BookIs w b m M) (hm : IMap w m' l') (hne : m ≠ m') (ho : Only [m'] w w') : BookIs w' b m M := by
  have hk := KeepsCells.map hm ho
  have hb : b ≠ m' := fun e => by
    obtain ⟨es, c, h1, _⟩ := hm
    have := h.blk
    rw [e, h1] at this
    cases this
  exact ⟨(ho.block b (lt_of_heap h.blk) (by simpa using hb)).trans h.blk, h.map.only ho (by simpa using hne), fun p hp => (h.js p hp).keeps hk, h.wf, h.len⟩

theorem getD_put (M : List Sp) (q : Sp) (x : Int) : getD (putS M q) x = if q.id = x then q else getD M x := by
  have key : getS (putS M q) x = if q.id = x then some q else getS M x := by
    induction M with
    | nil =>
      unfold putS getS
      by_cases h : q.id = x <;> simp [h]
    | cons p M ih =>
      unfold putS
      by_cases hp : p.id = q.id
      · rw [if_pos hp]
        unfold getS
        by_cases h : q.id = x
        · simp [h]
        · have h1 : (q.id == x) = false := by simpa using h
          have h2 : (p.id == x) = false := by rw [hp]; exact h1
          simp only [List.find?_cons, h1, h2, if_neg h]
      · rw [if_neg hp]
        unfold getS at ih ⊢
        cases h : p.id == x with
        | true =>
          have hx : p.id = x := by simpa using h
          have : q.id ≠ x := fun e => hp (by rw [hx, e])
          simp [h, this]
        | false =>
          simp only [List.find?_cons, h]
          exact ih
  unfold getD
  rw [key]
  by_cases h : q.id = x
  · rw [if_pos h, if_pos h]; rfl
  · rw [if_neg h, if_neg h]
theorem getD_drop (M : List Sp) (id x : Int) : getD (dropS M id) x = if id = x then ⟨x, false, [], .slice none 0 0⟩ else getD M x := by
  have key : getS (dropS M id) x = if id = x then none else getS M x := by
    induction M with
    | nil => unfold dropS getS; simp
    | cons p M ih =>
      unfold dropS getS at ih ⊢
      rw [List.filter_cons]
      by_cases hp : p.id = id
      · have : (p.id != id) = false := by simpa using hp
        rw [this, if_neg (by simp), ih]
        by_cases h : id = x
        · simp [h]
        · have h2 : (p.id == x) = false := by rw [hp]; simpa using h
          simp only [List.find?_cons, h2, if_neg h]
      · have : (p.id != id) = true := by simpa using hp
        rw [this, if_pos rfl]
        cases h : p.id == x with
        | true =>
          have hx : p.id = x := by simpa using h
          have : id ≠ x := fun e => hp (by rw [hx, e])
          simp [h, this]
        | false =>
          simp only [List.find?_cons, h]
          exact ih
  unfold getD
  rw [key]
  by_cases h : id = x
  · rw [if_pos h, if_pos h]; rfl
  · rw [if_neg h, if_neg h]

theorem held_co {M : List Sp} {x : Int} {r : Int} {t : List Int} (hj : (r, t) ∈ (getD M x).js.map Jc.co) (h : ∀ y ∈ t, Held M y) : Held M x := by
  obtain ⟨j, hjm, e⟩ := List.mem_map.1 hj
  refine .just hjm fun y hy => h y ?_
  have : j.tup = t := congrArg Prod.snd e
  rwa [← this]
theorem no_held {M : List Sp} (h1 : ∀ x, (getD M x).plain = false) (h2 : ∀ x, ∀ c ∈ (getD M x).js.map Jc.co, c.2 ≠ []) {x : Int} : ¬ Held M x := fun h => by
  induction h with
  | plain h => rw [h1] at h; cases h
  | just hj _hall ih =>
    rename_i id j
    have := h2 id _ (List.mem_map.2 ⟨j, hj, rfl⟩)
    cases ht : j.tup with
    | nil => exact this ht
    | cons y t => exact ih y (by rw [ht]; exact .head _)

theorem nis1 {w : World} {b : Nat} {x : Int} {t : TypeId} (h : w.heap[b]? = some (.cells #[.int .i64 x] t (0, 0))) : NIs w (.slice (some ⟨b, 0, none⟩) 1 1) [x] :=
  ⟨by simp, .inl ⟨b, 0, 1, rfl, fun i hi => by
    match i, hi with
    | 0, _ => exact cellAt (i := 0) h rfl⟩⟩
theorem nis2 {w : World} {b : Nat} {x y : Int} {t : TypeId} (h : w.heap[b]? = some (.cells #[.int .i64 x, .int .i64 y] t (0, 0))) : NIs w (.slice (some ⟨b, 0, none⟩) 2 2) [x, y] :=
  ⟨by simp, .inl ⟨b, 0, 2, rfl, fun i hi => by
    match i, hi with
    | 0, _ => exact cellAt (i := 0) h rfl
    | 1, _ => exact cellAt (i := 1) h rfl⟩⟩

/-- One more justification, by a literal of one id. -/
theorem justify_one {w : World} {b m : Nat} {M : List Sp} (id z : Int) (h : BookIs w b m M) (hwf : (Lit.int .i64 id).wf = true) (hl : M.length < 100000) (hno : (getD M id).js = []) :
    Calls Try.prog 28 #[.pointer (some ⟨b, 0, none⟩), .int .i64 id, .agg #[.int .i64 0, .slice (some ⟨w.heap.size, 0, none⟩) 1 1]] (w.alloc (.cells #[.int .i64 z] 3)) fun e w' => e = .returned (.bool true) ∧
      (∃ q : Sp, q.id = id ∧ q.plain = (getD M id).plain ∧ q.js.map Jc.co = [(0, [z])] ∧ BookIs w' b m (putS M q)) ∧ Only [m] w w' := by
  have hb := ((Only.refl [] w).alloc (.cells #[.int .i64 z] 3)).below
  refine (justify_any b m M id ⟨0, [z], .slice (some ⟨w.heap.size, 0, none⟩) 1 1⟩ _ (h.below hb) (nis1 (heap_alloc0 w _)) hwf hl (by rw [hno]; simp)).mono ?_
  rintro e w' ⟨rfl, ⟨q, h1, h2, h3, h4⟩, ho⟩
  rw [hno] at h3
  exact ⟨by rw [hno]; rfl, ⟨q, h1, h2, by simpa [Jc.co] using h3, h4⟩, (Only.of_below hb _).trans ho⟩
theorem justify_two {w : World} {b m : Nat} {M : List Sp} (id z y : Int) (h : BookIs w b m M) (hwf : (Lit.int .i64 id).wf = true) (hl : M.length < 100000) (hno : (getD M id).js = []) :
    Calls Try.prog 28 #[.pointer (some ⟨b, 0, none⟩), .int .i64 id, .agg #[.int .i64 0, .slice (some ⟨w.heap.size, 0, none⟩) 2 2]] (w.alloc (.cells #[.int .i64 z, .int .i64 y] 3)) fun e w' => e = .returned (.bool true) ∧
      (∃ q : Sp, q.id = id ∧ q.plain = (getD M id).plain ∧ q.js.map Jc.co = [(0, [z, y])] ∧ BookIs w' b m (putS M q)) ∧ Only [m] w w' := by
  have hb := ((Only.refl [] w).alloc (.cells #[.int .i64 z, .int .i64 y] 3)).below
  refine (justify_any b m M id ⟨0, [z, y], .slice (some ⟨w.heap.size, 0, none⟩) 2 2⟩ _ (h.below hb) (nis2 (heap_alloc0 w _)) hwf hl (by rw [hno]; simp)).mono ?_
  rintro e w' ⟨rfl, ⟨q, h1, h2, h3, h4⟩, ho⟩
  rw [hno] at h3
  exact ⟨by rw [hno]; rfl, ⟨q, h1, h2, by simpa [Jc.co] using h3, h4⟩, (Only.of_below hb _).trans ho⟩

theorem rows_two {w : World} {v : Value} {l : List Int} {x y : Int} (h : NIs w v l) (hl : l = [x, y]) :
    Calls Try.prog 35 #[v, .slice (some ⟨w.heap.size, 0, none⟩) 2 2] (w.alloc (.cells #[.int .i64 x, .int .i64 y] 3)) fun e w' => e = .returned (.int .i64 0) ∧ Below w.heap.size w w' := by
  have hb := ((Only.refl [] w).alloc (.cells #[.int .i64 x, .int .i64 y] 3)).below
  refine (rows_any _ _ l [x, y] _ (h.below hb) (nis2 (heap_alloc0 w _))).mono ?_
  rintro e w' ⟨rfl, h2⟩
  exact ⟨by rw [(cmpL_zero _ _).2 hl], hb.trans (h2.mono (by simp))⟩

def LitI (w : World) (l : List Value) : World := w.alloc (.cells l.toArray 3)

theorem known_chain (w : World) :
    Calls Try.prog 26 #[] w fun r w1 => ∃ b, r = .returned (.pointer (some ⟨b, 0, none⟩)) ∧
    Calls Try.prog 26 #[] w1 fun r w2 => ∃ c, r = .returned (.pointer (some ⟨c, 0, none⟩)) ∧
    Calls Try.prog 27 #[.pointer (some ⟨b, 0, none⟩), .int .i64 1] w2 fun r w3 => r = .returned (.tuple #[]) ∧
    Calls Try.prog 28 #[.pointer (some ⟨b, 0, none⟩), .int .i64 2, .agg #[.int .i64 0, .slice (some ⟨w3.heap.size, 0, none⟩) 1 1]] (w3.alloc (.cells #[.int .i64 1] 3)) fun r w4 => r = .returned (.bool true) ∧
    Calls Try.prog 28 #[.pointer (some ⟨b, 0, none⟩), .int .i64 3, .agg #[.int .i64 0, .slice (some ⟨w4.heap.size, 0, none⟩) 2 2]] (w4.alloc (.cells #[.int .i64 2, .int .i64 1] 3)) fun r w5 => r = .returned (.bool true) ∧
    Calls Try.prog 29 #[.pointer (some ⟨b, 0, none⟩)] w5 fun r w6 => ∃ la lc, r = .returned (.slice la 0 lc) ∧
    Calls Try.prog 33 #[.pointer (some ⟨b, 0, none⟩), .int .i64 1] w6 fun r w7 => ∃ p, r = .returned (.bool p) ∧
    Calls Try.prog 28 #[.pointer (some ⟨c, 0, none⟩), .int .i64 1, .agg #[.int .i64 0, .slice (some ⟨w7.heap.size, 0, none⟩) 1 1]] (w7.alloc (.cells #[.int .i64 2] 3)) fun r w8 => r = .returned (.bool true) ∧
    Calls Try.prog 28 #[.pointer (some ⟨c, 0, none⟩), .int .i64 2, .agg #[.int .i64 0, .slice (some ⟨w8.heap.size, 0, none⟩) 1 1]] (w8.alloc (.cells #[.int .i64 1] 3)) fun r w9 => r = .returned (.bool true) ∧
    Calls Try.prog 29 #[.pointer (some ⟨b, 0, none⟩)] w9 fun r w10 => ∃ ma n mc, r = .returned (.slice ma n mc) ∧
    Calls Try.prog 35 #[.slice ma n mc, .slice (some ⟨w10.heap.size, 0, none⟩) 2 2] (w10.alloc (.cells #[.int .i64 2, .int .i64 3] 3)) fun r w11 => r = .returned (.int .i64 0) ∧
    Calls Try.prog 29 #[.pointer (some ⟨c, 0, none⟩)] w11 fun r w12 => ∃ na k nc, r = .returned (.slice na k nc) ∧
    Calls Try.prog 35 #[.slice na k nc, .slice (some ⟨w12.heap.size, 0, none⟩) 2 2] (w12.alloc (.cells #[.int .i64 1, .int .i64 2] 3)) fun r w13 => r = .returned (.int .i64 0) ∧ Below w.heap.size w w13 := by
  have wf1 : (Lit.int .i64 1).wf = true := by decide
  have wf2 : (Lit.int .i64 2).wf = true := by decide
  have wf3 : (Lit.int .i64 3).wf = true := by decide
  refine (new_any w).mono ?_
  rintro r w1 ⟨b, m, rfl, hB1, hb1, hbb, hmm⟩
  refine ⟨b, rfl, ?_⟩
  refine (new_any w1).mono ?_
  rintro r w2 ⟨c, n, rfl, hC2, hb2, hcc, hnn⟩
  refine ⟨c, rfl, ?_⟩
  have hmn : m ≠ n := by have := hB1.map.lt; omega
  have hnm := hmn.symm
  have hn0 : w.heap.size ≤ n := by have := hb1.size; omega
  have hbw2 : Below w.heap.size w w2 := hb1.trans (hb2.mono hb1.size)
  have hB2 := hB1.below hb2
  have on : ∀ {S : List Nat} {a V : World}, Below w.heap.size w a → Only S a V → (∀ i ∈ S, w.heap.size ≤ i) → Below w.heap.size w V := fun hA hV hS => below_only hA hV hS hA.size
  refine (plain_any b m [] 1 w2 hB2 wf1 (by simp)).mono ?_
  rintro r w3 ⟨rfl, hB3, ho3⟩
  refine ⟨rfl, ?_⟩
  have hC3 := hC2.other hB2.map hnm ho3
  have hb3 := on hbw2 ho3 (by simpa using hmm)
  obtain ⟨p1, hp1⟩ : ∃ p, p = (⟨1, true, (getD [] 1).js, (getD [] 1).v⟩ : Sp) := ⟨_, rfl⟩
  rw [← hp1] at hB3
  have e1 : putS [] p1 = [p1] := rfl
  rw [e1] at hB3
  have i1 : p1.id = 1 := by rw [hp1]
  have pl1 : p1.plain = true := by rw [hp1]
  have g2 : getD [p1] 2 = ⟨2, false, [], .slice none 0 0⟩ := by unfold getD getS; simp [i1]
  refine (justify_one 2 1 hB3 wf2 (by simp) (by rw [g2])).mono ?_
  rintro r w4 ⟨rfl, ⟨q2, i2, pl2, j2, hB4⟩, ho4⟩
  refine ⟨rfl, ?_⟩
  have hC4 := hC3.other hB3.map hnm ho4
  have hb4 := on hb3 ho4 (by simpa using hmm)
  have e2 : putS [p1] q2 = [p1, q2] := by simp [putS, i1, i2]
  rw [e2] at hB4
  rw [g2] at pl2
  have g3 : getD [p1, q2] 3 = ⟨3, false, [], .slice none 0 0⟩ := by unfold getD getS; simp [i1, i2]
  refine (justify_two 3 2 1 hB4 wf3 (by simp) (by rw [g3])).mono ?_
  rintro r w5 ⟨rfl, ⟨q3, i3, pl3, j3, hB5⟩, ho5⟩
  refine ⟨rfl, ?_⟩
  have hC5 := hC4.other hB4.map hnm ho5
  have hb5 := on hb4 ho5 (by simpa using hmm)
  have e3 : putS [p1, q2] q3 = [p1, q2, q3] := by simp [putS, i1, i2, i3]
  rw [e3] at hB5
  rw [g3] at pl3
  have k1 : getD [p1, q2, q3] 1 = p1 := by unfold getD getS; simp [i1]
  have k2 : getD [p1, q2, q3] 2 = q2 := by unfold getD getS; simp [i1, i2]
  have k3 : getD [p1, q2, q3] 3 = q3 := by unfold getD getS; simp [i1, i2, i3]
  have H1 : Held [p1, q2, q3] 1 := .plain (by rw [k1]; exact pl1)
  have H2 : Held [p1, q2, q3] 2 := held_co (r := 0) (t := [1]) (by rw [k2, j2]; exact .head _) (by simpa using H1)
  have H3 : Held [p1, q2, q3] 3 := held_co (r := 0) (t := [2, 1]) (by rw [k3, j3]; exact .head _) (by simpa using ⟨H2, H1⟩)
  have hids : idsS [p1, q2, q3] = [1, 2, 3] := by
    unfold idsS
    simp only [List.map_cons, List.map_nil, i1, i2, i3]
    exact (rise_unique (List.Perm.refl _) (by simp)).symm
  refine (lost_any b m _ w5 hB5).mono ?_
  rintro r w6 ⟨v, ll, rfl, hv, ⟨P, hP, hll⟩, hb6⟩
  rw [hids] at hP hll
  have hl0 : ll = [] := by
    rw [hll, (hP 1 (by simp)).2 H1 |> fun h1 => List.filter_eq_nil_iff.2 (fun x hx => by
      simp only [List.mem_cons, List.not_mem_nil, or_false] at hx
      rcases hx with rfl | rfl | rfl
      · simp [h1]
      · simp [(hP 2 (by simp)).2 H2]
      · simp [(hP 3 (by simp)).2 H3])]
  subst hl0
  obtain ⟨la, lc, rfl⟩ := hv.form
  refine ⟨la, lc, rfl, ?_⟩
  have hB6 := hB5.below hb6
  have hC6 := hC5.below hb6
  have hb6' := hb5.trans (hb6.mono hb5.size)
  refine (drop_any b m _ 1 w6 hB6).mono ?_
  rintro r w7 ⟨rfl, hB7, ho7⟩
  refine ⟨_, rfl, ?_⟩
  have hC7 := hC6.other hB6.map hnm ho7
  have hb7 := on hb6' ho7 (by simpa using hmm)
  have e7 : dropS [p1, q2, q3] 1 = [q2, q3] := by simp [dropS, i1, i2, i3]
  rw [e7] at hB7
  refine (justify_one 1 2 hC7 wf1 (by simp) (by rfl)).mono ?_
  rintro r w8 ⟨rfl, ⟨s1, u1, v1, z1, hC8⟩, ho8⟩
  refine ⟨rfl, ?_⟩
  have hB8 := hB7.other hC7.map hmn ho8
  have hb8 := on hb7 ho8 (by simpa using hn0)
  have e8 : putS [] s1 = [s1] := rfl
  rw [e8] at hC8
  have g8 : getD [s1] 2 = ⟨2, false, [], .slice none 0 0⟩ := by unfold getD getS; simp [u1]
  refine (justify_one 2 1 hC8 wf2 (by simp) (by rw [g8])).mono ?_
  rintro r w9 ⟨rfl, ⟨s2, u2, v2, z2, hC9⟩, ho9⟩
  refine ⟨rfl, ?_⟩
  have hB9 := hB8.other hC8.map hmn ho9
  have hb9 := on hb8 ho9 (by simpa using hn0)
  have e9 : putS [s1] s2 = [s1, s2] := by simp [putS, u1, u2]
  rw [e9] at hC9
  rw [g8] at v2
  have two : ∀ {x1 x2 : Int} {t1 t2 : Sp} {c1 c2 : Int × List Int}, x1 ≠ x2 → t1.id = x1 → t2.id = x2 → t1.plain = false → t2.plain = false → t1.js.map Jc.co = [c1] → t2.js.map Jc.co = [c2] → c1.2 ≠ [] → c2.2 ≠ [] → ∀ x, ¬ Held [t1, t2] x := by
    intro x1 x2 t1 t2 c1 c2 hne a1 a2 b1 b2 d1 d2 f1 f2 x
    have hg : ∀ x, (getD [t1, t2] x = t1 ∨ getD [t1, t2] x = t2 ∨ getD [t1, t2] x = ⟨x, false, [], .slice none 0 0⟩) := fun x => by
      unfold getD getS
      by_cases h1 : t1.id = x
      · simp [h1]
      · by_cases h2 : t2.id = x
        · simp [h1, h2]
        · simp [h1, h2]
    refine no_held (fun x => ?_) (fun x c hc => ?_)
    · rcases hg x with h | h | h <;> rw [h]
      · exact b1
      · exact b2
    · rcases hg x with h | h | h <;> rw [h] at hc
      · rw [d1] at hc; simp only [List.mem_singleton] at hc; rw [hc]; exact f1
      · rw [d2] at hc; simp only [List.mem_singleton] at hc; rw [hc]; exact f2
      · simp at hc
  have nb : ∀ x, ¬ Held [q2, q3] x := two (by decide) i2 i3 pl2 pl3 j2 j3 (by simp) (by simp)
  have nc : ∀ x, ¬ Held [s1, s2] x := two (by decide) u1 u2 v1 v2 z1 z2 (by simp) (by simp)
  refine (lost_any b m _ w9 hB9).mono ?_
  rintro r w10 ⟨v, ll, rfl, hv, ⟨P, hP, hll⟩, hb10⟩
  obtain ⟨ma, mc, rfl⟩ := hv.form
  refine ⟨ma, _, mc, rfl, ?_⟩
  have hids2 : idsS [q2, q3] = [2, 3] := by
    unfold idsS
    simp only [List.map_cons, List.map_nil, i2, i3]
    exact (rise_unique (List.Perm.refl _) (by simp)).symm
  rw [hids2] at hP hll
  have hl2 : ll = [2, 3] := by
    rw [hll]
    refine List.filter_eq_self.2 fun x hx => ?_
    have : P x ≠ true := fun e => nb x ((hP x hx).1 e)
    simpa using this
  have hC10 := hC9.below hb10
  have hb10' := hb9.trans (hb10.mono hb9.size)
  refine (rows_two hv hl2).mono ?_
  rintro r w11 ⟨rfl, hb11⟩
  refine ⟨rfl, ?_⟩
  have hC11 := hC10.below hb11
  have hb11' := hb10'.trans (hb11.mono hb10'.size)
  refine (lost_any c n _ w11 hC11).mono ?_
  rintro r w12 ⟨v, l3, rfl, hv3, ⟨P3, hP3, hll3⟩, hb12⟩
  obtain ⟨na, ncc, rfl⟩ := hv3.form
  refine ⟨na, _, ncc, rfl, ?_⟩
  have hids3 : idsS [s1, s2] = [1, 2] := by
    unfold idsS
    simp only [List.map_cons, List.map_nil, u1, u2]
    exact (rise_unique (List.Perm.refl _) (by simp)).symm
  rw [hids3] at hP3 hll3
  have hl3 : l3 = [1, 2] := by
    rw [hll3]
    refine List.filter_eq_self.2 fun x hx => ?_
    have : P3 x ≠ true := fun e => nc x ((hP3 x hx).1 e)
    simpa using this
  have hb12' := hb11'.trans (hb12.mono hb11'.size)
  refine (rows_two hv3 hl3).mono ?_
  rintro r w13 ⟨rfl, hb13⟩
  exact ⟨rfl, hb12'.trans (hb13.mono hb12'.size)⟩
end Go.Proofs.Ytmcajoccfbebiaa
