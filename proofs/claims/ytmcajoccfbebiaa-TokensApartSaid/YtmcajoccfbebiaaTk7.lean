/- Tokens: Remove. -/
import Derived.Test.YtmcajoccfbebiaaTk6
import Derived.Laws.EntriesVeiled
namespace Go.Proofs.Ytmcajoccfbebiaa
open Go Go.RowKit Go.MapKept Go.Sort

theorem drop_T (T : List Tk) (n : Int) : Go.Proofs.Ytmcajoccfbebiaa.drop (T.map Tk.pair) n = (T.filter fun t => t.id != n).map Tk.pair := by
  unfold Go.Proofs.Ytmcajoccfbebiaa.drop
  rw [List.filter_map]
  rfl
theorem ofG_del {g : Tk → Option Int} {T : List Tk} {i key : Int} (h : ∀ u ∈ T, u.id = i → ∀ m, g u = some m → m = key) :
    (fun m => if m = key then (ofG g T key).filter (fun x => x != i) else ofG g T m) = ofG g (T.filter fun t => t.id != i) := by
  have hc : ∀ m, ofG g (T.filter fun t => t.id != i) m = (ofG g T m).filter (fun x => x != i) := fun m => by
    unfold ofG
    rw [List.filter_map, List.filter_filter, List.filter_filter]
    congr 1
    exact List.filter_congr fun t _ => by simp [Bool.and_comm]
  funext m
  rw [hc]
  by_cases e : m = key
  · subst e
    rw [if_pos rfl]
  · rw [if_neg e, List.filter_eq_self.2]
    intro x hx
    obtain ⟨u, hu, hg, rfl⟩ := ofG_mem.1 hx
    simp only [bne_iff_ne, ne_eq]
    intro q
    exact e (h u hu q m hg)
/-- The tokens, but the first j of R. -/
def butT (T R : List Tk) (j : Nat) : List Tk := T.filter fun t => !isIn (R.take j) t.id
theorem butT_zero (T R : List Tk) : butT T R 0 = T := by
  unfold butT
  rw [List.filter_eq_self.2]
  intro t _
  simp [isIn]
theorem butT_succ (T R : List Tk) {j : Nat} (hj : j < R.length) : butT T R (j + 1) = (butT T R j).filter fun t => t.id != R[j].id := by
  unfold butT
  rw [List.filter_filter]
  refine List.filter_congr fun t _ => ?_
  rw [List.take_succ_eq_append_getElem hj]
  unfold isIn
  rw [List.any_append]
  by_cases e : R[j].id = t.id
  · simp [e]
  · have h1 : (R[j].id == t.id) = false := by simpa using e
    have h2 : (t.id != R[j].id) = true := by simpa using fun q : t.id = R[j].id => e q.symm
    simp [h1, h2]
theorem butT_all (T R : List Tk) : butT T R R.length = T.filter fun t => !isIn R t.id := by
  unfold butT
  rw [List.take_length]

section
variable {w : World} {A : Ar} {T : List Tk} {last : Int}
set_option maxRecDepth 100000 in
theorem trem_zero (w : World) (A : Ar) :
    Calls Try.prog 13 #[.pointer (some ⟨A.a, 0, none⟩), .int .i64 0] w fun e w' => e = .returned (.slice none 0 0) ∧ Below w.heap.size w w' := by
  go_enter Try.func13, Try.ntmps13
  go_wp2
  refine bodyPost_ret (v := .slice none 0 0) (by simp [results, Try.results13, go_sem, *]) rfl ?_
  refine ⟨rfl, ?_⟩
  repeat (first | exact (((Only.refl [] w).alloc _).alloc _).below | refine Below.setCell ?_ (by first | exact Nat.le_refl _ | exact Nat.le_succ _) _)
set_option maxRecDepth 100000 in
theorem trem_no (h : ArIs w A T last) {n : Int} (hn : n ≠ 0) (ht : getT T n = none) :
    Calls Try.prog 13 #[.pointer (some ⟨A.a, 0, none⟩), .int .i64 n] w fun e w' => e = .returned (.slice none 0 0) ∧ Below w.heap.size w w' := by
  obtain ⟨_, c1, _, _, _, _⟩ := cells5 h.r.blk
  have hn2 : (n == 0) = false := by simpa using hn
  have hb2 : Below w.heap.size w ((w.alloc (.cells #[.pointer (some ⟨A.a, 0, none⟩)] 24)).alloc (.cells #[.slice none 0 0] 29)) := (((Only.refl [] w).alloc _).alloc _).below
  have hl := run_lookup (P := Try.prog) (t := 76) Try.underlying76 Try.underlying3 (h.below hb2).r.by' (zero_tk _) n
  rw [look_T, ht] at hl
  simp only [Option.map_none, looked] at hl
  have hbA := lt_of_heap h.r.blk
  clear h ht hb2 hn
  go_enter Try.func13, Try.ntmps13
  go_wp2
  refine bodyPost_ret (v := .slice none 0 0) (by simp [results, Try.results13, go_sem, *]) rfl ?_
  refine ⟨rfl, ?_⟩
  repeat (first | exact ((((Only.refl [] w).alloc _).alloc _).alloc _).below | refine Below.setCell ?_ (by first | exact Nat.le_refl _ | exact Nat.le_succ _) _)

/-- What stands while Remove takes the tokens away. -/
structure RSt (w wr : World) (A : Ar) (T R : List Tk) (last : Int) (O ab B : Nat) (v : Value) (j : Nat) : Prop where
  ar : ∃ A' : Ar, A'.a = A.a ∧ ArIs wr A' (butT T R j) last ∧ ∀ k, A'.foot k → A.foot k
  po : wr.heap[O]? = some (.cells #[v] 29 (0, 0))
  row : wr.ownsRow B 32 4 v R.length (tflat R)
  pa : wr.heap[ab]? = some (.cells #[.pointer (some ⟨A.a, 0, none⟩)] 24 (0, 0))
  only : Only A.all w wr
theorem RSt.at {w wr : World} {A : Ar} {T R : List Tk} {last : Int} {O ab B j q : Nat} {v : Value} (h : RSt w wr A T R last O ab B v j) (hq : q < R.length) :
    ∃ g c, v = .slice (some ⟨g, 0, none⟩) R.length c ∧ wr.cell? ⟨g, q * 4, none⟩ = some (.int .i64 R[q].id) ∧ wr.cell? ⟨g, q * 4 + 1, none⟩ = some (.int .i64 R[q].parent) ∧ wr.cell? ⟨g, q * 4 + 2, none⟩ = some (.int .i64 R[q].node) ∧ wr.cell? ⟨g, q * 4 + 3, none⟩ = some (.int .i64 R[q].fact) := by
  rcases h.row.2 with ⟨_, e0⟩ | ⟨g, cap, cur, e, hb, hg, _⟩
  · omega
  · have hc := fun i u hu => World.ownsRow.cells h.row (g := g) (by rw [e]; rfl) i u hu
    obtain ⟨k0, k1, k2, k3⟩ := tflat_get R q hq
    have h0 := hc _ _ k0
    have h1 := hc _ _ k1
    have h2 := hc _ _ k2
    have h3 := hc _ _ k3
    rw [Addr.add_lit, Nat.zero_add] at h0 h1 h2 h3
    exact ⟨g, cap, e, h0, h1, h2, h3⟩

/-- While one token is taken away. -/
structure RMid (w V : World) (A A1 : Ar) (T' : List Tk) (Fk Fa Fw : Int → List Int) (last : Int) (O ab z B : Nat) (v : Value) (R : List Tk) (r : Tk) : Prop where
  r4 : Ar4 V A1 T' Fk Fa Fw last
  ha : A1.a = A.a
  af : ∀ k, A1.foot k → A.foot k
  po : V.heap[O]? = some (.cells #[v] 29 (0, 0))
  row : V.ownsRow B 32 4 v R.length (tflat R)
  pa : V.heap[ab]? = some (.cells #[.pointer (some ⟨A.a, 0, none⟩)] 24 (0, 0))
  bz : V.heap[z]? = some (.cells #[.int .i64 r.id, .int .i64 r.parent, .int .i64 r.node, .int .i64 r.fact] 32 (0, 0))
  only : Only A.all w V
  hO : w.heap.size ≤ O
  hab : w.heap.size ≤ ab
  hz : w.heap.size ≤ z
  hB : w.heap.size ≤ B
section
variable {w V V' : World} {A A1 A2 : Ar} {T T' T'' R : List Tk} {Fk Fa Fw Gk Ga Gw : Int → List Int} {last : Int} {O ab z B : Nat} {v : Value} {r : Tk}
theorem RMid.next {S : List Nat} (h : RMid w V A A1 T' Fk Fa Fw last O ab z B v R r) (hA : ArIs w A T last) (ho : Only S V V') (hS : ∀ k ∈ S, A1.foot k) (h4 : Ar4 V' A2 T'' Gk Ga Gw last) (ha : A2.a = A1.a) (hf : ∀ k, A2.foot k → A1.foot k) :
    RMid w V' A A2 T'' Gk Ga Gw last O ab z B v R r := by
  have hlow : ∀ k ∈ S, k < w.heap.size := fun k hk => hA.lt (h.af k (hS k hk))
  have hO := h.hO; have hab := h.hab; have hz := h.hz; have hB := h.hB
  refine ⟨h4, ha.trans h.ha, fun k hk => h.af k (hf k hk), (ho.block _ (lt_of_heap h.po) fun q => ?_).trans h.po, owns_only h.row ho fun k hk q => ?_, (ho.block _ (lt_of_heap h.pa) fun q => ?_).trans h.pa, (ho.block _ (lt_of_heap h.bz) fun q => ?_).trans h.bz, h.only.trans (ho.mono fun k hk => Ar.mem_all.2 (h.af k (hS k hk))), hO, hab, hz, hB⟩
  · have := hlow _ q
    omega
  · have := (h.row.lt k hk).1
    have := hlow _ q
    omega
  · have := hlow _ q
    omega
  · have := hlow _ q
    omega
theorem RMid.below (h : RMid w V A A1 T' Fk Fa Fw last O ab z B v R r) (hA : ArIs w A T last) (hb : Below V.heap.size V V') : RMid w V' A A1 T' Fk Fa Fw last O ab z B v R r :=
  h.next hA (S := []) (Only.of_below hb []) (by simp) (h.r4.below hb) rfl (fun _ q => q)
theorem RMid.cells (h : RMid w V A A1 T' Fk Fa Fw last O ab z B v R r) :
    V.cell? ⟨ab, 0, none⟩ = some (.pointer (some ⟨A.a, 0, none⟩)) ∧ V.cell? ⟨A.a, 1, none⟩ = some (.map (some A1.mb)) ∧ V.cell? ⟨A.a, 2, none⟩ = some (.map (some A1.mki)) ∧ V.cell? ⟨A.a, 3, none⟩ = some (.map (some A1.ma)) ∧ V.cell? ⟨A.a, 4, none⟩ = some (.map (some A1.mw)) ∧
      V.cell? ⟨z, 0, none⟩ = some (.int .i64 r.id) ∧ V.cell? ⟨z, 1, none⟩ = some (.int .i64 r.parent) ∧ V.cell? ⟨z, 2, none⟩ = some (.int .i64 r.node) ∧ V.cell? ⟨z, 3, none⟩ = some (.int .i64 r.fact) := by
  have hb := h.r4.blk
  rw [h.ha] at hb
  obtain ⟨_, c1, c2, c3, c4, _⟩ := cells5 hb
  exact ⟨(one_cell h.pa).1, c1, c2, c3, c4, cellAt (i := 0) h.bz rfl, cellAt (i := 1) h.bz rfl, cellAt (i := 2) h.bz rfl, cellAt (i := 3) h.bz rfl⟩
end
set_option maxRecDepth 100000 in
set_option maxHeartbeats 4000000 in
theorem trem_yes (h : ArIs w A T last) (hT : TreeOk T last) {n : Int} (hn : n ≠ 0) {t : Tk} (ht : getT T n = some t) :
    Calls Try.prog 13 #[.pointer (some ⟨A.a, 0, none⟩), .int .i64 n] w fun e w' => ∃ v R A', e = .returned v ∧ w'.ownsRow w.heap.size 32 4 v R.length (tflat R) ∧ R.Perm (goneL T last n) ∧ R.Pairwise (fun a b => a.id ≤ b.id) ∧
      A'.a = A.a ∧ ArIs w' A' (remT T last n) last ∧ Only A.all w w' ∧ (∀ k, A'.foot k → A.foot k) := by
  obtain ⟨_, c1, _, _, _, _⟩ := cells5 h.r.blk
  have hn2 : (n == 0) = false := by simpa using hn
  have hb2 : Below w.heap.size w ((w.alloc (.cells #[.pointer (some ⟨A.a, 0, none⟩)] 24)).alloc (.cells #[.slice none 0 0] 29)) := (((Only.refl [] w).alloc _).alloc _).below
  have hl := run_lookup (P := Try.prog) (t := 76) Try.underlying76 Try.underlying3 (h.below hb2).r.by' (zero_tk _) n
  rw [look_T, ht] at hl
  have hgone : goneL T last n = pre T (last + 1).toNat n := by
    unfold goneL
    rw [if_neg hn, ht]
    simp
  have hg3 := hT.gone n
  have hrl := hT.rem_len n
  have hTl := h.len
  obtain ⟨htT, hte⟩ := getT_some ht
  have htg := hT.ge t htT
  rw [hgone] at hg3 hrl
  have hne : pre T (last + 1).toNat n ≠ [] := by
    obtain ⟨m, hm⟩ : ∃ m, (last + 1).toNat = m + 1 := ⟨last.toNat, by omega⟩
    rw [hm]
    simp [pre]
  obtain ⟨t0, t1, t2, t3⟩ := t
  simp only [Option.map_some, looked, Tk.val] at hl
  have hbA := lt_of_heap h.r.blk
  obtain ⟨W3, hW3⟩ : ∃ W3, ((w.alloc (.cells #[.pointer (some ⟨A.a, 0, none⟩)] 24)).alloc (.cells #[.slice none 0 0] 29)).alloc (.cells #[.int .i64 t0, .int .i64 t1, .int .i64 t2, .int .i64 t3] 32) = W3 := ⟨_, rfl⟩
  obtain ⟨W5, hW5⟩ : ∃ W5, W3.alloc (.cells #[gFn (w.heap.size + 1) w.heap.size W3.heap.size] 56) = W5 := ⟨_, rfl⟩
  have z3 : W3.heap.size = w.heap.size + 1 + 1 + 1 := by rw [← hW3]; simp
  have z5 : W5.heap.size = W3.heap.size + 1 := by rw [← hW5]; simp
  have o3 : Below w.heap.size w W3 := by rw [← hW3]; exact ((((Only.refl [] w).alloc _).alloc _).alloc _).below
  have o5 : Below W3.heap.size W3 W5 := by rw [← hW5]; exact ((Only.refl [] W3).alloc _).below
  have hab : W3.heap[w.heap.size]? = some (.cells #[.pointer (some ⟨A.a, 0, none⟩)] 24 (0, 0)) := by
    rw [← hW3]
    exact (Below.heap_alloc _ _ _ (by simp; omega)).trans ((Below.heap_alloc _ _ _ (by simp)).trans (heap_alloc0 w _))
  have hO : W3.heap[w.heap.size + 1]? = some (.cells #[.slice none 0 0] 29 (0, 0)) := by
    rw [← hW3]
    refine (Below.heap_alloc _ _ _ (by simp)).trans ?_
    simpa using heap_alloc0 (w.alloc (.cells #[.pointer (some ⟨A.a, 0, none⟩)] 24)) (.cells #[.slice none 0 0] 29)
  have b5 : Below w.heap.size w W5 := o3.trans (o5.mono (by omega))
  have hS : GSt W5 A T last (w.heap.size + 1) w.heap.size W3.heap.size (W3.heap.size + 1) (.slice none 0 0) [] := by
    refine ⟨h.below b5, (o5.block _ (by omega)).trans hO, World.ownsRow_nil _ _ _ _, (o5.block _ (by omega)).trans hab, ?_, by omega, by omega, fun q => by have := h.lt q; omega, fun k hk => by have := h.lt hk; omega⟩
    rw [← hW5]
    exact heap_alloc0 W3 _
  have hc := gather_any A T last hT (w.heap.size + 1) w.heap.size W3.heap.size (W3.heap.size + 1) (last + 1).toNat n [] _ W5 ⟨_, htT, hte⟩ (by omega) hS (by simp; omega)
  have Hc := hide hc
  have Hb5 := hide b5
  have HW5 := hide hW5
  have HW3 := hide hW3
  have HT := hide hT
  have Hg3 := hide hg3
  have H := hide h
  have Hgone := hide hgone
  have Hne := hide hne
  have hp0 := (one_cell hS.pg).1
  have hp1 := (one_cell hS.po).1
  unfold gFn at hp0
  have Hz := hide (And.intro z3 z5)
  unfold gFn at HW5
  clear hc b5 hW5 hW3 hS o5 o3 hO hab hT h hgone hg3 hne ht hb2 hn htT hte htg z3 z5
  obtain ⟨R, hR⟩ : ∃ R, pre T (last + 1).toNat n = R := ⟨_, rfl⟩
  rw [hR] at Hc Hg3 Hgone Hne hrl
  clear hR
  go_enter Try.func13, Try.ntmps13
  go_upto_region 6 with fail
  rw [HW3.out]
  go_upto_region 8 with fail
  rw [HW5.out]
  go_wp2_with fail
  (with_reducible refine Hc.out.mono ?_)
  rintro e V ⟨rfl, v5, g1, g2, _⟩
  simp only [List.nil_append] at g1
  obtain ⟨va, vc, rfl⟩ := row_form g1.row
  have hv1 := (one_cell g1.po).1
  have HS : Hid (RSt w V A T R last (w.heap.size + 1) w.heap.size (W3.heap.size + 1) (.slice va R.length vc) 0) := hide ⟨⟨A, rfl, by rw [butT_zero]; exact g1.ar, fun _ q => q⟩, g1.po, g1.row, g1.pa, (Only.of_below (below_only Hb5.out g2 (by simp [Value.ownBlock]) Hb5.out.size) _)⟩
  clear g1 g2 Hc hp0 hp1 c1 hl
  have hRl : R.length ≤ 1000 := by omega
  go_wp2_with fail
  clear hv1
  go_loopw [33] (fun vi wr => ∃ j : Nat, j ≤ R.length ∧ vi = .int .i64 j ∧ Hid (RSt w wr A T R last (w.heap.size + 1) w.heap.size (W3.heap.size + 1) (.slice va R.length vc) j)) (fun vi _ => R.length - (intOf vi).toNat)
  case atStart => exact ⟨0, Nat.zero_le _, rfl, HS.out⟩
  case round =>
    obtain ⟨j, hj, rfl, hq⟩ := hrel
    by_cases hjl : j < R.length
    · obtain ⟨A1, hA1, hAr, hAf⟩ := hq.out.ar
      obtain ⟨g, gc, e, d0, d1, d2, d3⟩ := hq.out.at hjl
      injection e with e1 e2 e3
      subst e1
      clear e2 e3
      have hbut := butT_succ T R hjl
      have hrT := (Hg3.out.1 _ (List.getElem_mem hjl)).1
      obtain ⟨r, hr⟩ : ∃ r, R[j] = r := ⟨_, rfl⟩
      rw [hr] at d0 d1 d2 d3 hbut hrT
      obtain ⟨r0, r1, r2, r3⟩ := r
      simp only at d0 d1 d2 d3 hbut
      have hkey : ∀ u ∈ butT T R j, u.id = r0 → u = ⟨r0, r1, r2, r3⟩ := fun u hu e => HT.out.uniq (List.mem_filter.1 hu).1 hrT e
      obtain ⟨Tj, hTj⟩ : ∃ Tj, butT T R j = Tj := ⟨_, rfl⟩
      rw [hTj] at hAr hbut hkey
      have hgl := hq.out.only.size
      have hz := Hz.out
      have hM0 : RMid w (wr.alloc (.cells #[.int .i64 r0, .int .i64 r1, .int .i64 r2, .int .i64 r3] 32)) A A1 Tj (ofG kG Tj) (ofG aG Tj) (ofG wG Tj) last (w.heap.size + 1) w.heap.size wr.heap.size (W3.heap.size + 1) (.slice (some ⟨g, 0, none⟩) R.length vc) R ⟨r0, r1, r2, r3⟩ := by
        have hb : Below wr.heap.size wr (wr.alloc (.cells #[.int .i64 r0, .int .i64 r1, .int .i64 r2, .int .i64 r3] 32)) := ((Only.refl [] wr).alloc _).below
        exact ⟨hAr.r.below hb, hA1, hAf, (hb.block _ (lt_of_heap hq.out.po)).trans hq.out.po, owns_below hq.out.row hb, (hb.block _ (lt_of_heap hq.out.pa)).trans hq.out.pa, heap_alloc0 wr _, hq.out.only.trans (Only.of_below hb _), by omega, Nat.le_refl _, hgl, by omega⟩
      have hM1 := hM0.below H.out (Only.drew (Only.refl [] _)).below
      obtain ⟨wx, hrunx, hmx, hox, hszx⟩ := run_delete (P := Try.prog) (t := 76) Try.underlying76 Try.underlying3 hM1.r4.by' r0
      rw [drop_T] at hmx
      have hM2 := hM1.next H.out hox (fun k hk => by simp only [List.mem_singleton] at hk; exact .inr (.inl hk)) (hM1.r4.setB hmx hox) rfl (fun _ q => q)
      obtain ⟨p0, p1, _, _, _, p5, _, _, _⟩ := hM1.cells
      simp only at p5
      have HM2 := hide hM2
      have HAr := hide hAr
      have Hbut := hide hbut
      have Hkey := hide hkey
      have i1 : (0 : Int) ≤ (j : Int) := by omega
      have i2 : (j : Int) < (R.length : Int) := by omega
      clear hq hM0 hM1 hM2 hmx hox hszx hAr hbut hkey hTj hr hrT hgl hz HS
      go_upto_region 12 with fail
      go_region
      all_goals
        clear p0 p1 p5 d0 d1 d2 d3 hrunx
        have hM2 := HM2.out.below H.out (Only.drew (Only.refl [] _)).below
        obtain ⟨q0, _, q2, _, _, q5, q6, _, _⟩ := hM2.cells
        simp only at q5 q6
        have HS := hide (sdrop_any A1.mki A1.Kk (ofG kG Tj) r1 r0 wx.drew hM2.r4.kids)
        clear hM2
        go_wp2_with fail
        go_region_held3 (fun V => V.cell? ⟨w.heap.size, 0, none⟩ = some (.pointer (some ⟨A.a, 0, none⟩)) ∧ V.cell? ⟨A.a, 2, none⟩ = some (.map (some A1.mki)) ∧ V.cell? ⟨wr.heap.size, 0, none⟩ = some (.int .i64 r0) ∧ V.cell? ⟨wr.heap.size, 1, none⟩ = some (.int .i64 r1)) (go_keep)
          ((go_at_call 47; have hqq := HS.out; (with_reducible refine Calls.mono hqq ?_); clear hqq; rintro e Y1 ⟨rfl, Kk, hs, ho, hf⟩; have hX := (HM2.out.below H.out (Only.drew (Only.refl [] _)).below).next H.out ho (fun k hk => .inr (.inr (.inl hk))) ((HM2.out.below H.out (Only.drew (Only.refl [] _)).below).r4.setK hs ho (fun k hk => .inl (hf k hk))) rfl (fun k hk => by rcases hk with q | q | q | q | q <;> first | exact .inl q | exact .inr (.inl q) | exact .inr (.inr (.inl (hf k q))) | exact .inr (.inr (.inl q)) | exact .inr (.inr (.inr (.inl (hf k q)))) | exact .inr (.inr (.inr (.inl q))) | exact .inr (.inr (.inr (.inr (hf k q)))) | exact .inr (.inr (.inr (.inr q)))); obtain ⟨p0, p1, p2, p3, p4, p5, p6, p7, p8⟩ := hX.cells; simp only at p5 p6 p7 p8; have HM3 := hide hX; clear hX hs ho hf ))
        clear q0 q2 q5 q6 HM2
        clear p0 p1 p2 p3 p4 p5 p6 p7 p8 HS
        have hM2 := HM3.out.below H.out (Only.drew (Only.refl [] Y1)).below
        obtain ⟨q0, q1, q2, q3, q4, q5, q6, q7, q8⟩ := hM2.cells
        simp only at q3 q4 q5 q6 q7 q8
        have HS := hide (sdrop_any A1.ma A1.Ka (ofG aG Tj) r2 r0 Y1.drew hM2.r4.at')
        clear hM2 q1 q2 q6
        go_wp2_with fail
        go_region_held3 (fun V => V.cell? ⟨w.heap.size, 0, none⟩ = some (.pointer (some ⟨A.a, 0, none⟩)) ∧ V.cell? ⟨A.a, 3, none⟩ = some (.map (some A1.ma)) ∧ V.cell? ⟨wr.heap.size, 0, none⟩ = some (.int .i64 r0) ∧ V.cell? ⟨wr.heap.size, 2, none⟩ = some (.int .i64 r2)) (go_keep)
          ((go_at_call 47; have hqq := HS.out; (with_reducible refine Calls.mono hqq ?_); clear hqq; rintro e Y2 ⟨rfl, Ka, hs, ho, hf⟩; have hX := (HM3.out.below H.out (Only.drew (Only.refl [] _)).below).next H.out ho (fun k hk => .inr (.inr (.inr (.inl hk)))) ((HM3.out.below H.out (Only.drew (Only.refl [] _)).below).r4.setA hs ho (fun k hk => .inl (hf k hk))) rfl (fun k hk => by rcases hk with q | q | q | q | q <;> first | exact .inl q | exact .inr (.inl q) | exact .inr (.inr (.inl (hf k q))) | exact .inr (.inr (.inl q)) | exact .inr (.inr (.inr (.inl (hf k q)))) | exact .inr (.inr (.inr (.inl q))) | exact .inr (.inr (.inr (.inr (hf k q)))) | exact .inr (.inr (.inr (.inr q)))); obtain ⟨p0, p1, p2, p3, p4, p5, p6, p7, p8⟩ := hX.cells; simp only at p5 p6 p7 p8; have HM4 := hide hX; clear hX hs ho hf))
        clear q0 q3 q4 q5 q7 q8
        clear HM3
        clear p0 p1 p2 p3 p4 p5 p6 p7 p8 HS
        have hM2 := HM4.out.below H.out (Only.drew (Only.refl [] Y2)).below
        obtain ⟨q0, q1, q2, q3, q4, q5, q6, q7, q8⟩ := hM2.cells
        simp only at q3 q4 q5 q6 q7 q8
        have HS := hide (sdrop_any A1.mw A1.Kw (ofG wG Tj) r3 r0 Y2.drew hM2.r4.wit)
        clear hM2 q1 q2 q6
        go_wp2_with fail
        go_region_held3 (fun V => V.cell? ⟨w.heap.size, 0, none⟩ = some (.pointer (some ⟨A.a, 0, none⟩)) ∧ V.cell? ⟨A.a, 4, none⟩ = some (.map (some A1.mw)) ∧ V.cell? ⟨wr.heap.size, 0, none⟩ = some (.int .i64 r0) ∧ V.cell? ⟨wr.heap.size, 3, none⟩ = some (.int .i64 r3)) (go_keep)
          ((go_at_call 47; have hqq := HS.out; (with_reducible refine Calls.mono hqq ?_); clear hqq; rintro e Y3 ⟨rfl, Kw, hs, ho, hf⟩; have hX := (HM4.out.below H.out (Only.drew (Only.refl [] _)).below).next H.out ho (fun k hk => .inr (.inr (.inr (.inr hk)))) ((HM4.out.below H.out (Only.drew (Only.refl [] _)).below).r4.setW hs ho (fun k hk => .inl (hf k hk))) rfl (fun k hk => by rcases hk with q | q | q | q | q <;> first | exact .inl q | exact .inr (.inl q) | exact .inr (.inr (.inl (hf k q))) | exact .inr (.inr (.inl q)) | exact .inr (.inr (.inr (.inl (hf k q)))) | exact .inr (.inr (.inr (.inl q))) | exact .inr (.inr (.inr (.inr (hf k q)))) | exact .inr (.inr (.inr (.inr q)))); obtain ⟨p0, p1, p2, p3, p4, p5, p6, p7, p8⟩ := hX.cells; simp only at p5 p6 p7 p8; have HM5 := hide hX; clear hX hs ho hf))
        clear q0 q3 q4 q5 q7 q8
        clear p0 p1 p2 p3 p4 p5 p6 p7 p8 HS HM4
        have HN : Hid (RSt w Y3 A T R last (w.heap.size + 1) w.heap.size (W3.heap.size + 1) (.slice (some ⟨g, 0, none⟩) R.length vc) (j + 1)) := by
          have hM := HM5.out
          refine ⟨⟨{ A1 with Kk := Kk, Ka := Ka, Kw := Kw }, hM.ha, ?_, hM.af⟩, hM.po, hM.row, hM.pa, hM.only⟩
          rw [Hbut.out]
          refine ⟨?_, by have := HAr.out.len; have := List.length_filter_le (fun t : Tk => t.id != r0) Tj; omega, fun t ht => HAr.out.ids t (List.mem_filter.1 ht).1⟩
          rw [← ofG_del (g := kG) (T := Tj) (i := r0) (key := r1) (fun u hu e m hm => by
            rw [Hkey.out u hu e] at hm
            unfold kG at hm
            split at hm
            · cases hm
            · injection hm with hm
              exact hm.symm), ← ofG_del (g := aG) (T := Tj) (i := r0) (key := r2) (fun u hu e m hm => by
            rw [Hkey.out u hu e] at hm
            injection hm with hm
            exact hm.symm), ← ofG_del (g := wG) (T := Tj) (i := r0) (key := r3) (fun u hu e m hm => by
            rw [Hkey.out u hu e] at hm
            unfold wG at hm
            split at hm
            · injection hm with hm
              exact hm.symm
            · cases hm)]
          exact hM.r4
        clear HM5 Hbut Hkey HAr
        go_wp2
        go_roundw
        case rel => exact ⟨j + 1, by omega, by go_num, HN⟩
        case measure => simp [intOf]; omega
    · obtain rfl : j = R.length := by omega
      obtain ⟨A1, hA1, hAr, hAf⟩ := hq.out.ar
      rw [butT_all] at hAr
      have hpo := (one_cell hq.out.po)
      obtain ⟨po, pf⟩ := hpo
      have hz := Hz.out
      have hsz := hq.out.only.size
      have hOl := lt_of_heap hq.out.po
      have hs := tsort_any (W3.heap.size + 1) (.slice va R.length vc) R wr (by omega) Hne.out hq.out.row
      have Hs := hide hs
      have HQ := hide hq.out
      have HAr := hide hAr
      have HAf := hide hAf
      clear hs hq hAr hAf HS
      go_wp2_with fail
      (with_reducible refine Hs.out.mono ?_)
      rintro e Y ⟨rfl, R', hperm, hsor, hrow, ho⟩
      have hnO : ∀ k, (k = w.heap.size + 1 ∨ A1.foot k) → k ∉ (Value.ownBlock (.slice va R.length vc)).toList := fun k hk q => by
        have hk1 := (HQ.out.row.lt k (by simpa using q)).1
        rcases hk with rfl | hk
        · omega
        · have := H.out.lt (HAf.out k hk)
          omega
      have hY := HAr.out.only ho fun k hk => hnO k (.inr hk)
      have hpoY := (ho.block _ (lt_of_heap HQ.out.po) (hnO _ (.inl rfl))).trans HQ.out.po
      obtain ⟨po2, pf2⟩ := one_cell hpoY
      have HY := hide hY
      have HR : Hid (Y.ownsRow (W3.heap.size + 1) 32 4 (.slice va R.length vc) R.length (tflat R')) := hrow
      have HP := hide hperm
      have HSor := hide hsor
      have HpoY := hide hpoY
      have HoY : Hid (Below wr.heap.size wr Y ∨ True) := hide (.inr trivial)
      have HO2 : Hid (Only A.all w Y) := hide (HQ.out.only.step ho fun k hk => by
        have := (HQ.out.row.lt k (by simpa using hk)).1
        exact .inr (by omega))
      clear hY hpoY hrow hperm hsor ho hnO Hs po pf HoY
      go_wp2
      refine bodyPost_ret (v := .slice va R.length vc) (by simp [results, Try.results13, go_sem, *]) rfl ?_
      have oc : Only [w.heap.size + 1] Y (Y.setCell ⟨w.heap.size + 1, 0, none⟩ (.slice va R.length vc)) := (Only.refl _ _).setCell (.inl (by simp)) _
      refine ⟨_, R', A1, rfl, ?_, by rw [Hgone.out]; exact HP.out, HSor.out, hA1, ?_, HO2.out.step oc fun k hk => ?_, HAf.out⟩
      · have e : R'.length = R.length := HP.out.length_eq
        rw [e]
        exact owns_base (owns_only HR.out oc fun k hk q => by
          have := (HR.out.lt k hk).1
          simp only [List.mem_singleton] at q
          omega) (by omega)
      · unfold remT
        rw [Hgone.out]
        exact HY.out.only oc fun k hk q => by
          have := H.out.lt (HAf.out k hk)
          simp only [List.mem_singleton] at q
          omega
      · simp only [List.mem_singleton] at hk
        exact .inr (by omega)

theorem rem_same {n : Int} (h : goneL T last n = []) : remT T last n = T := by
  unfold remT
  rw [h, List.filter_eq_self.2]
  intro t _
  simp [isIn]
/-- Remove, whatever comes. -/
theorem trem_any (h : ArIs w A T last) (hT : TreeOk T last) (n : Int) :
    Calls Try.prog 13 #[.pointer (some ⟨A.a, 0, none⟩), .int .i64 n] w fun e w' => ∃ v R A', e = .returned v ∧ w'.ownsRow w.heap.size 32 4 v R.length (tflat R) ∧ R.Perm (goneL T last n) ∧ R.Pairwise (fun a b => a.id ≤ b.id) ∧
      A'.a = A.a ∧ ArIs w' A' (remT T last n) last ∧ Only A.all w w' ∧ (∀ k, A'.foot k → A.foot k) := by
  by_cases h0 : n = 0
  · subst h0
    have hg : goneL T last 0 = [] := by unfold goneL; simp
    refine (trem_zero w A).mono ?_
    rintro e w' ⟨rfl, hb⟩
    exact ⟨_, [], A, rfl, World.ownsRow_nil _ _ _ _, by rw [hg], List.Pairwise.nil, rfl, by rw [rem_same hg]; exact h.below hb, Only.of_below hb _, fun _ q => q⟩
  · cases ht : getT T n with
    | none =>
      have hg : goneL T last n = [] := by unfold goneL; rw [if_neg h0, ht]; rfl
      refine (trem_no h h0 ht).mono ?_
      rintro e w' ⟨rfl, hb⟩
      exact ⟨_, [], A, rfl, World.ownsRow_nil _ _ _ _, by rw [hg], List.Pairwise.nil, rfl, by rw [rem_same hg]; exact h.below hb, Only.of_below hb _, fun _ q => q⟩
    | some t => exact trem_yes h hT h0 ht
end
end Go.Proofs.Ytmcajoccfbebiaa
