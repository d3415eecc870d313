/- The contract of witanref27's Fire. -/
import Derived.Test.YtelgajgghgknnaaRAg3
import Derived.Deep.RegionLaw
namespace Go.Proofs.Ytelgajgghgknnaa
open Go Go.RowKit Go.MapKept Go.Sort

/-- append onto a row of one's own, at a step of a region that draws. -/
theorem step_append_own {P : Program} {ops : Array Oper} {o : Oper} {a : Act} {w : World} {K : Act → World → Prop} {Q : Exit → Act → World → Prop} {E : Prop} (hgd : o.guard = none) (s x : Operand) (t : TypeId)
    (ho : o.op = .call { callee := .builtin .append, args := #[s, x], argTypes := #[t, t] })
    (base : Nat) (e : TypeId) (i : TypeInfo) (z : Value) (size bytes : Nat) (ht : P.underlying t = some (.slice e)) (hi : P.info? e = some i) (hz : i.zero = some z)
    (hsize : i.size = size) (hby : i.bytes = bytes) (hzs : z.cells.size = size) (hsz : 0 < size)
    (v : Value) (n : Nat) (xs : List Value) (hs : a.eval s = v) (hown : w.ownsRow base e size v n xs)
    (ad : Addr) (m c : Nat) (news : List Value) (hx : a.eval x = .slice (some ad) m c) (hl : news.length = m * size) (hnews : ∀ j u, news[j]? = some u → w.cell? (ad.add j) = some u) (h1 : ∀ u ∈ news, u.oneCell' = true)
    (h63 : n + m ≤ maxLen) (hbytes : (n + m) * bytes ≤ 140737488355328) (hbase : base ≤ w.heap.size)
    (h : ∀ v' w', w'.ownsRow base e size v' (n + m) (xs ++ news) → w.grownBy w' v.ownBlock → K (a.put o.dst v') w') :
    if Region.wanted o (yielded ops a.tmps) = true then Oper.wp P o a w K Q else E := by
  have hw : Region.wanted o (yielded ops a.tmps) = true := by simp [Region.wanted, hgd]
  rw [if_pos hw]
  exact wp_append_own w s x t ho base e i z size bytes ht hi hz hsize hby hzs hsz v n xs hs hown ad m c news hx hl hnews h1 h63 hbytes hbase fun v' w' h2 h3 _ => h v' w' h2 h3
theorem step_append_none {P : Program} {ops : Array Oper} {o : Oper} {a : Act} {w : World} {K : Act → World → Prop} {Q : Exit → Act → World → Prop} {E : Prop} (hgd : o.guard = none) (s x : Operand) (t : TypeId)
    (ho : o.op = .call { callee := .builtin .append, args := #[s, x], argTypes := #[t, t] })
    (base : Nat) (e : TypeId) (i : TypeInfo) (size : Nat) (ht : P.underlying t = some (.slice e)) (hi : P.info? e = some i)
    (v : Value) (n : Nat) (xs : List Value) (hs : a.eval s = v) (hown : w.ownsRow base e size v n xs) (hx : a.eval x = .slice none 0 0)
    (h : K (a.put o.dst v) w) :
    if Region.wanted o (yielded ops a.tmps) = true then Oper.wp P o a w K Q else E := by
  have hw : Region.wanted o (yielded ops a.tmps) = true := by simp [Region.wanted, hgd]
  rw [if_pos hw]
  have hrun := run_append_owned_none (P := P) (w := w) base t o.type e i size ht hi v n xs hown
  unfold Oper.wp
  simp [execOp, ho, resolve, invoke, builtin, hs, hx, hrun, Result.andThen]
  exact h

theorem own_empty {V : World} {X B : Nat} (h : V.heap[X]? = some (.cells #[] 27 (0, 0))) (hB : B ≤ X) : V.ownsRow B 27 3 (.slice (some ⟨X, 0, none⟩) 0 0) 0 [] := ⟨rfl, .inr ⟨X, 0, #[], rfl, hB, h, Nat.le_refl _, Nat.zero_le _, rfl, rfl⟩⟩

theorem ref_fired {w0 U V : World} {b : Nat} {s : Int} {vL vF v2 : Value} {L F : List Ac} {x : Ac} (h : RefIs w0 U b s vL vF L F) (hb : Below U.heap.size U V) (hl : F.length < 100000) (hx : NIs w0 x.x x.tup)
    (hown : V.ownsRow U.heap.size 27 3 v2 (F.length + 1) (aflat F ++ [.int .i64 x.rule, x.x, .int .i64 x.sal])) :
    RefIs w0 (V.setCell ⟨b, 2, none⟩ v2) b s vL v2 L (F ++ [x]) ∧ Only [b] U (V.setCell ⟨b, 2, none⟩ v2) := by
  have hV := h.to hb
  have hz := h.below.size
  have ho : Only [b] V (V.setCell ⟨b, 2, none⟩ v2) := (Only.refl [b] V).setCell (.inl (by simp)) v2
  have hk : ∀ {B n : Nat} {v : Value} {xs : List Value}, V.ownsRow B 27 3 v n xs → (V.setCell ⟨b, 2, none⟩ v2).ownsRow B 27 3 v n xs := fun hr => owns_only hr ho (fun k hk hm => by
    simp only [List.mem_singleton] at hm
    subst hm
    exact owns_not hr hV.blk (by decide) hk)
  refine ⟨⟨by rw [setCell_heap hV.blk]; rfl, h.hb, hV.below.setCell h.hb _, h.lenL, by simp; omega, hk hV.rowL, ?_, h.tupL, ?_⟩, (Only.of_below hb _).trans ho⟩
  · rw [List.length_append, aflat_append]
    exact owns_base (hk hown) hz
  · intro a ha
    rcases List.mem_append.1 ha with ha | ha
    · exact h.tupF a ha
    · simp only [List.mem_singleton] at ha
      subst ha
      exact hx

theorem fire_app1 {U V' V1 : World} {X n : Nat} {v1 : Value} {l : List Ac} {lit : Obj} (hb : Below U.heap.size U V') (hX : U.heap.size ≤ X) (hown : V1.ownsRow U.heap.size 27 3 v1 (0 + n) ([] ++ aflat l)) (hg : V'.grownBy V1 (Value.ownBlock (.slice (some ⟨X, 0, none⟩) 0 0))) :
    (∃ a c, v1 = .slice a n c) ∧ V1.ownsRow U.heap.size 27 3 v1 n (aflat l) ∧ Below U.heap.size U V1 ∧ ∀ k, k < V'.heap.size → k ≠ X → V'.heap[k]? = some lit → V1.heap[k]? = some lit := by
  simp only [Nat.zero_add, List.nil_append] at hown
  obtain ⟨a, c, rfl⟩ := row_form hown
  exact ⟨⟨a, c, rfl⟩, hown, hb.grown hg hb.size (fun k e => by simp only [Value.ownBlock, Option.some.injEq] at e; omega), fun k h1 h2 h3 => (hg.block k h1 (by simp only [Value.ownBlock, ne_eq, Option.some.injEq]; exact h2)).trans h3⟩

/-- append of one own row onto another (none or some), at a step of a region that draws. -/
theorem step_append_row {P : Program} {ops : Array Oper} {o : Oper} {a : Act} {w : World} {K : Act → World → Prop} {Q : Exit → Act → World → Prop} {E : Prop} (hgd : o.guard = none) (s x : Operand) (t : TypeId)
    (ho : o.op = .call { callee := .builtin .append, args := #[s, x], argTypes := #[t, t] })
    (base B2 : Nat) (e : TypeId) (i : TypeInfo) (z : Value) (size bytes : Nat) (ht : P.underlying t = some (.slice e)) (hi : P.info? e = some i) (hz : i.zero = some z)
    (hsize : i.size = size) (hby : i.bytes = bytes) (hzs : z.cells.size = size) (hsz : 0 < size)
    (v : Value) (n : Nat) (xs : List Value) (hs : a.eval s = v) (hown : w.ownsRow base e size v n xs)
    (vx : Value) (m : Nat) (news : List Value) (hx : a.eval x = vx) (hrow : w.ownsRow B2 e size vx m news) (h1 : ∀ u ∈ news, u.oneCell' = true)
    (h63 : n + m ≤ maxLen) (hbytes : (n + m) * bytes ≤ 140737488355328) (hbase : base ≤ w.heap.size)
    (h : ∀ v' w', w'.ownsRow base e size v' (n + m) (xs ++ news) → w.grownBy w' v.ownBlock → K (a.put o.dst v') w') :
    if Region.wanted o (yielded ops a.tmps) = true then Oper.wp P o a w K Q else E := by
  rcases hrow.2 with ⟨rfl, rfl⟩ | ⟨g, cap, cur, rfl, _⟩
  · have hn : news = [] := List.eq_nil_of_length_eq_zero (by have := hrow.1; omega)
    subst hn
    exact step_append_none hgd s x t ho base e i size ht hi v n xs hs hown hx (h v w (by simpa using hown) ⟨rfl, rfl, rfl, Nat.le_refl _, fun _ _ _ => rfl⟩)
  · exact step_append_own hgd s x t ho base e i z size bytes ht hi hz hsize hby hzs hsz v n xs hs hown ⟨g, 0, none⟩ m cap news hx hrow.1 (hrow.cells (g := g) rfl) h1 h63 hbytes hbase h
theorem lit_news {V : World} {X : Nat} {x y z : Value} {t : TypeId} (h : V.heap[X]? = some (.cells #[x, y, z] t (0, 0))) : ∀ (j : Nat) (u : Value), [x, y, z][j]? = some u → V.cell? ((⟨X, 0, none⟩ : Addr).add j) = some u := by
  obtain ⟨c0, c1, c2, _⟩ := cells3a h
  intro j u hu
  match j, hu with
  | 0, hu => simp at hu; subst hu; simpa [Addr.add] using c0
  | 1, hu => simp at hu; subst hu; simpa [Addr.add] using c1
  | 2, hu => simp at hu; subst hu; simpa [Addr.add] using c2
  | j + 3, hu => simp at hu
theorem fire_app2 {U V1 V2 : World} {n : Nat} {v1 : Value} {xs : List Value} (hb : Below U.heap.size U V1) (ho : V1.ownsRow U.heap.size 27 3 v1 n xs) (hg : V1.grownBy V2 v1.ownBlock) : Below U.heap.size U V2 := hb.grown hg hb.size (fun k e => (ho.lt k e).1)

set_option maxRecDepth 100000 in
set_option maxHeartbeats 4000000 in
theorem rFire_any {w0 : World} (b : Nat) (s : Int) (vL vF : Value) (L F : List Ac) (x : Ac) (w : World) (h : RefIs w0 w b s vL vF L F) (hx0 : NIs w0 x.x x.tup) (hl : F.length < 100000) :
    Calls Try.prog 24 #[.pointer (some ⟨b, 0, none⟩), x.val] w fun r w' => r = .returned (.bool ((L.any fun a => a.same x) && !(F.any fun a => a.same x))) ∧ (∃ vF', RefIs w0 w' b s vL vF' L (if (L.any fun a => a.same x) && !(F.any fun a => a.same x) then F ++ [x] else F)) ∧ Only [b] w w' := by
  have hltb := lt_of_heap h.blk
  have hx := hx0.below h.below
  obtain ⟨rx, lx, sx, vx⟩ := x
  simp only at hx hx0
  obtain ⟨xa, xc, rfl⟩ := hx.form
  obtain ⟨W, hW⟩ : ∃ W, w.alloc (Obj.cells #[.int .i64 rx, .slice xa lx.length xc, .int .i64 sx] 27) = W := ⟨_, rfl⟩
  have hb1 : Below w.heap.size w W := by rw [← hW]; exact ((Only.refl [] w).alloc _).below
  have hbox := heap_alloc0 w (Obj.cells #[.int .i64 rx, .slice xa lx.length xc, .int .i64 sx] 27)
  have hsz : W.heap.size = w.heap.size + 1 := by rw [← hW]; simp
  rw [hW] at hbox
  obtain ⟨b0, b1, b2, _⟩ := cells3a hbox
  have hX : ∀ V, Below W.heap.size W V → V.cell? ⟨w.heap.size, 0, none⟩ = some (.int .i64 rx) ∧ V.cell? ⟨w.heap.size, 1, none⟩ = some (.slice xa lx.length xc) ∧ V.cell? ⟨w.heap.size, 2, none⟩ = some (.int .i64 sx) := fun V hV =>
    have hz : w.heap.size < W.heap.size := by omega
    ⟨(hV.cell (p := ⟨w.heap.size, 0, none⟩) hz).trans b0, (hV.cell (p := ⟨w.heap.size, 1, none⟩) hz).trans b1, (hV.cell (p := ⟨w.heap.size, 2, none⟩) hz).trans b2⟩
  have hh := rHas_any b s vL vF L F ⟨rx, lx, sx, .slice xa lx.length xc⟩ W (h.to hb1) (hx.below hb1)
  have hfi : ∀ V, Below W.heap.size W V → Calls Try.prog 30 #[.pointer (some ⟨b, 0, none⟩), .agg #[.int .i64 rx, .slice xa lx.length xc, .int .i64 sx]] V fun r w' => r = .returned (.bool (F.any fun a => a.same ⟨rx, lx, sx, .slice xa lx.length xc⟩)) ∧ Below V.heap.size V w' := fun V hV => by
    have := rFired_any b s vL vF L F ⟨rx, lx, sx, .slice xa lx.length xc⟩ V ((h.to hb1).to hV) ((hx.below hb1).below hV)
    unfold Ac.val at this
    exact this
  unfold Ac.val at hh ⊢
  obtain ⟨p, hp⟩ : ∃ p, (L.any fun a => a.same ⟨rx, lx, sx, .slice xa lx.length xc⟩) = p := ⟨_, rfl⟩
  obtain ⟨f, hf⟩ : ∃ f, (F.any fun a => a.same ⟨rx, lx, sx, .slice xa lx.length xc⟩) = f := ⟨_, rfl⟩
  rw [hp] at hh ⊢
  simp only [hf] at hfi
  rw [hf]
  have Hh := hide hh
  have Hfi := hide hfi
  have HX := hide hX
  have HW := hide hW
  have H := hide h
  have HX0 := hide hx0
  have HB1 := hide hb1
  have Hsz := hide hsz
  clear hh hfi hX hW h hx hb1 hbox hsz b0 b1 b2 hp hf hx0
  obtain ⟨d0, d1, d2⟩ := HX.out W (Below.refl _ _)
  cases p
  · go_enter Try.func24, Try.ntmps24
    go_upto_region 1 with fail
    rw [HW.out]
    go_wp2_with fail
    (with_reducible refine Hh.out.mono ?_)
    rintro r V ⟨rfl, hbV⟩
    have HF := hide (HB1.out.trans (hbV.mono HB1.out.size))
    clear hbV d0 d1 d2
    go_wp2
    go_ret
    exact ⟨rfl, ⟨vF, H.out.to HF.out⟩, Only.of_below HF.out _⟩
  · go_enter Try.func24, Try.ntmps24
    go_upto_region 1 with fail
    rw [HW.out]
    go_wp2_with fail
    (with_reducible refine Hh.out.mono ?_)
    rintro r V ⟨rfl, hbV⟩
    have HbV := hide hbV
    clear hbV d0 d1 d2
    obtain ⟨d0, d1, d2⟩ := HX.out V HbV.out
    go_wp2_with fail
    (with_reducible refine (Hfi.out V HbV.out).mono ?_)
    rintro r U ⟨rfl, hbU⟩
    have HbU := hide (HbV.out.trans (hbU.mono HbV.out.size))
    have HF := hide (HB1.out.trans (HbU.out.mono HB1.out.size))
    clear hbU d0 d1 d2
    obtain ⟨d0, d1, d2⟩ := HX.out U HbU.out
    cases f
    · have hU := H.out.to HF.out
      obtain ⟨e0, e1, e2, _, z2⟩ := cells3f hU.blk
      have hltU : b < U.heap.size := lt_of_heap hU.blk
      obtain ⟨va, vc, rfl⟩ := hU.actsF.form
      obtain ⟨i0, hi, hz0, hz1, hz2⟩ := ainfo_parts
      have Hi := hide hi
      have Hz0 := hide hz0
      have Hz1 := hide hz1
      have Hz2 := hide hz2
      have HU := hide hU
      have hwU : w.heap.size < U.heap.size := by have := HbU.out.size; have := Hsz.out; omega
      have hwU : w.heap.size < U.heap.size := by have := HbU.out.size; have := Hsz.out; omega
      have HrowF : Hid (∀ V, Below U.heap.size U V → V.ownsRow w0.heap.size 27 3 (.slice va F.length vc) F.length (aflat F)) := hide (fun V hV => owns_below hU.rowF hV)
      have HoneF : Hid (∀ u ∈ aflat F, u.oneCell' = true) := hide (aflat_one F (fun a ha => by obtain ⟨q, c, e⟩ := (hU.tupF a ha).form; exact ⟨q, _, c, e⟩))
      have Hbb : Hid (∀ V, Below U.heap.size U V → V.cell? ⟨b, 2, none⟩ = some (.slice va F.length vc) ∧ V.frozen? ⟨b, 2, none⟩ = false) := hide (fun V hV => by have := cells3f (hU.to hV).blk; exact ⟨this.2.2.1, this.2.2.2.2⟩)
      have Hxb : Hid (∀ V, Below U.heap.size U V → V.cell? ⟨w.heap.size, 0, none⟩ = some (.int .i64 rx) ∧ V.cell? ⟨w.heap.size, 1, none⟩ = some (.slice xa lx.length xc) ∧ V.cell? ⟨w.heap.size, 2, none⟩ = some (.int .i64 sx)) := hide (fun V hV => HX.out V (HbU.out.trans (hV.mono HbU.out.size)))
      clear hi hz0 hz1 hz2 hU HX
      have hbA : Below U.heap.size U ((U.alloc (Obj.cells #[] 27)).drew) := by first | exact (((Only.refl [] U).alloc _).drew).below | exact ((((Only.refl [] U).alloc _).alloc _).drew).below
      have heA : ((U.alloc (Obj.cells #[] 27)).drew).heap[U.heap.size]? = some (Obj.cells #[] 27) := heap_alloc0 U _
      have OwnA := hide (own_empty (B := U.heap.size) heA (by omega))
      have BelA := hide hbA
      have hbB : Below U.heap.size U (((U.alloc (Obj.cells #[] 27)).alloc (Obj.cells #[.int .i64 rx, .slice xa lx.length xc, .int .i64 sx] 27)).drew) := by first | exact (((Only.refl [] U).alloc _).drew).below | exact ((((Only.refl [] U).alloc _).alloc _).drew).below
      have heB : (((U.alloc (Obj.cells #[] 27)).alloc (Obj.cells #[.int .i64 rx, .slice xa lx.length xc, .int .i64 sx] 27)).drew).heap[U.heap.size]? = some (Obj.cells #[] 27) := heap_alloc2_old U (Obj.cells #[] 27) (Obj.cells #[.int .i64 rx, .slice xa lx.length xc, .int .i64 sx] 27)
      have hlB : (((U.alloc (Obj.cells #[] 27)).alloc (Obj.cells #[.int .i64 rx, .slice xa lx.length xc, .int .i64 sx] 27)).drew).heap[U.heap.size + 1]? = some (Obj.cells #[.int .i64 rx, .slice xa lx.length xc, .int .i64 sx] 27) := heap_alloc2_new U (Obj.cells #[] 27) (Obj.cells #[.int .i64 rx, .slice xa lx.length xc, .int .i64 sx] 27)
      have OwnB := hide (own_empty (B := U.heap.size) heB (by omega))
      have BelB := hide hbB
      have LitB := hide hlB
      have hbC : Below U.heap.size U (((U.alloc (Obj.cells #[.int .i64 rx, .slice xa lx.length xc, .int .i64 sx] 27)).alloc (Obj.cells #[] 27)).drew) := by first | exact (((Only.refl [] U).alloc _).drew).below | exact ((((Only.refl [] U).alloc _).alloc _).drew).below
      have heC : (((U.alloc (Obj.cells #[.int .i64 rx, .slice xa lx.length xc, .int .i64 sx] 27)).alloc (Obj.cells #[] 27)).drew).heap[U.heap.size + 1]? = some (Obj.cells #[] 27) := heap_alloc2_new U (Obj.cells #[.int .i64 rx, .slice xa lx.length xc, .int .i64 sx] 27) (Obj.cells #[] 27)
      have hlC : (((U.alloc (Obj.cells #[.int .i64 rx, .slice xa lx.length xc, .int .i64 sx] 27)).alloc (Obj.cells #[] 27)).drew).heap[U.heap.size]? = some (Obj.cells #[.int .i64 rx, .slice xa lx.length xc, .int .i64 sx] 27) := heap_alloc2_old U (Obj.cells #[.int .i64 rx, .slice xa lx.length xc, .int .i64 sx] 27) (Obj.cells #[] 27)
      have OwnC := hide (own_empty (B := U.heap.size) heC (by omega))
      have BelC := hide hbC
      have LitC := hide hlC
      clear hbA hbB hbC heA heB heC hlB hlC
      go_wp2_with fail
      go_region_law (first
        | (refine step_append_row rfl (.tmp 15) (.tmp 19) 22 rfl U.heap.size w0.heap.size 27 i0 (.agg #[.int .i64 0, .slice none 0 0, .int .i64 0]) 3 40 Try.underlying22 Hi.out Hz0.out Hz1.out Hz2.out rfl (by decide) (.slice (some ⟨U.heap.size, 0, none⟩) 0 0) 0 [] (by simp [Act.eval]) OwnA.out (.slice va F.length vc) F.length (aflat F) (by simp [Act.eval]) (HrowF.out _ BelA.out) HoneF.out (by unfold maxLen; omega) (by omega) (by simp <;> omega) ?_; intro v1 w1 hown1 hg1; obtain ⟨⟨a1, c1, rfl⟩, hoA, hwA, hkA⟩ := fire_app1 (lit := (Obj.cells #[.int .i64 rx, .slice xa lx.length xc, .int .i64 sx] 27)) BelA.out (by omega) hown1 hg1; obtain ⟨x0, x1, x2⟩ := Hxb.out w1 hwA; obtain ⟨y0, y1⟩ := Hbb.out w1 hwA; have HOA := hide hoA; have HWA := hide hwA; have hzA : U.heap.size < w1.heap.size := Nat.lt_of_lt_of_le (by simp <;> omega) hg1.size; have HKA := hide hkA; clear hoA hwA hkA hown1 hg1)
        | (refine step_append_row rfl (.tmp 15) (.tmp 19) 22 rfl U.heap.size w0.heap.size 27 i0 (.agg #[.int .i64 0, .slice none 0 0, .int .i64 0]) 3 40 Try.underlying22 Hi.out Hz0.out Hz1.out Hz2.out rfl (by decide) (.slice (some ⟨U.heap.size, 0, none⟩) 0 0) 0 [] (by simp [Act.eval]) OwnB.out (.slice va F.length vc) F.length (aflat F) (by simp [Act.eval]) (HrowF.out _ BelB.out) HoneF.out (by unfold maxLen; omega) (by omega) (by simp <;> omega) ?_; intro v1 w1 hown1 hg1; obtain ⟨⟨a1, c1, rfl⟩, hoB, hwB, hkB⟩ := fire_app1 (lit := (Obj.cells #[.int .i64 rx, .slice xa lx.length xc, .int .i64 sx] 27)) BelB.out (by omega) hown1 hg1; obtain ⟨x0, x1, x2⟩ := Hxb.out w1 hwB; obtain ⟨y0, y1⟩ := Hbb.out w1 hwB; have HOB := hide hoB; have HWB := hide hwB; have hzB : U.heap.size < w1.heap.size := Nat.lt_of_lt_of_le (by simp <;> omega) hg1.size; have HKB := hide hkB; clear hoB hwB hkB hown1 hg1)
        | (refine step_append_row rfl (.tmp 15) (.tmp 19) 22 rfl U.heap.size w0.heap.size 27 i0 (.agg #[.int .i64 0, .slice none 0 0, .int .i64 0]) 3 40 Try.underlying22 Hi.out Hz0.out Hz1.out Hz2.out rfl (by decide) (.slice (some ⟨(U.heap.size + 1), 0, none⟩) 0 0) 0 [] (by simp [Act.eval]) OwnC.out (.slice va F.length vc) F.length (aflat F) (by simp [Act.eval]) (HrowF.out _ BelC.out) HoneF.out (by unfold maxLen; omega) (by omega) (by simp <;> omega) ?_; intro v1 w1 hown1 hg1; obtain ⟨⟨a1, c1, rfl⟩, hoC, hwC, hkC⟩ := fire_app1 (lit := (Obj.cells #[.int .i64 rx, .slice xa lx.length xc, .int .i64 sx] 27)) BelC.out (by omega) hown1 hg1; obtain ⟨x0, x1, x2⟩ := Hxb.out w1 hwC; obtain ⟨y0, y1⟩ := Hbb.out w1 hwC; have HOC := hide hoC; have HWC := hide hwC; have hzC : U.heap.size < w1.heap.size := Nat.lt_of_lt_of_le (by simp <;> omega) hg1.size; have HKC := hide hkC; clear hoC hwC hkC hown1 hg1)
        | (refine step_append_own rfl (.tmp 20) (.tmp 22) 22 rfl U.heap.size 27 i0 (.agg #[.int .i64 0, .slice none 0 0, .int .i64 0]) 3 40 Try.underlying22 Hi.out Hz0.out Hz1.out Hz2.out rfl (by decide) (.slice a1 F.length c1) F.length (aflat F) (by simp [Act.eval]) (HOA.out.alloc _) ⟨w1.heap.size, 0, none⟩ 1 1 [.int .i64 rx, .slice xa lx.length xc, .int .i64 sx] (by simp [Act.eval]) rfl (lit_news (heap_alloc0 w1 _)) (by simp [Value.oneCell']) (by unfold maxLen; omega) (by omega) (by first | omega | (simp <;> omega)) ?_; intro v2 w2 hown2 hg2; obtain ⟨a2, c2, rfl⟩ := row_form hown2; have hw2 := fire_app2 (HWA.out.trans (((Only.refl [] w1).alloc _).below.mono (by omega))) (HOA.out.alloc _) hg2; obtain ⟨u0, u1⟩ := Hbb.out w2 hw2; have HFin := hide (ref_fired (x := ⟨rx, lx, sx, .slice xa lx.length xc⟩) HU.out hw2 hl HX0.out hown2); clear hw2 hown2 hg2)
        | (refine step_append_own rfl (.tmp 20) (.tmp 22) 22 rfl U.heap.size 27 i0 (.agg #[.int .i64 0, .slice none 0 0, .int .i64 0]) 3 40 Try.underlying22 Hi.out Hz0.out Hz1.out Hz2.out rfl (by decide) (.slice a1 F.length c1) F.length (aflat F) (by simp [Act.eval]) HOB.out ⟨(U.heap.size + 1), 0, none⟩ 1 1 [.int .i64 rx, .slice xa lx.length xc, .int .i64 sx] (by simp [Act.eval]) rfl (lit_news (HKB.out _ (by first | omega | (simp <;> omega)) (by omega) LitB.out)) (by simp [Value.oneCell']) (by unfold maxLen; omega) (by omega) (by first | omega | (simp <;> omega)) ?_; intro v2 w2 hown2 hg2; obtain ⟨a2, c2, rfl⟩ := row_form hown2; have hw2 := fire_app2 HWB.out HOB.out hg2; obtain ⟨u0, u1⟩ := Hbb.out w2 hw2; have HFin := hide (ref_fired (x := ⟨rx, lx, sx, .slice xa lx.length xc⟩) HU.out hw2 hl HX0.out hown2); clear hw2 hown2 hg2)
        | (refine step_append_own rfl (.tmp 20) (.tmp 22) 22 rfl U.heap.size 27 i0 (.agg #[.int .i64 0, .slice none 0 0, .int .i64 0]) 3 40 Try.underlying22 Hi.out Hz0.out Hz1.out Hz2.out rfl (by decide) (.slice a1 F.length c1) F.length (aflat F) (by simp [Act.eval]) HOC.out ⟨U.heap.size, 0, none⟩ 1 1 [.int .i64 rx, .slice xa lx.length xc, .int .i64 sx] (by simp [Act.eval]) rfl (lit_news (HKC.out _ (by first | omega | (simp <;> omega)) (by omega) LitC.out)) (by simp [Value.oneCell']) (by unfold maxLen; omega) (by omega) (by first | omega | (simp <;> omega)) ?_; intro v2 w2 hown2 hg2; obtain ⟨a2, c2, rfl⟩ := row_form hown2; have hw2 := fire_app2 HWC.out HOC.out hg2; obtain ⟨u0, u1⟩ := Hbb.out w2 hw2; have HFin := hide (ref_fired (x := ⟨rx, lx, sx, .slice xa lx.length xc⟩) HU.out hw2 hl HX0.out hown2); clear hw2 hown2 hg2))
      all_goals
        go_wp2
        go_ret
        exact ⟨rfl, ⟨_, HFin.out.1⟩, (Only.of_below HF.out _).trans HFin.out.2⟩
    · go_wp2
      go_ret
      exact ⟨rfl, ⟨vF, H.out.to HF.out⟩, Only.of_below HF.out _⟩
end Go.Proofs.Ytelgajgghgknnaa
