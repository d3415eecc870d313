/- MemoryPlays: what holds of both memories, call by call. -/
import Derived.Test.YteealadflekffaaRM7
namespace Go.Proofs.Yteealadflekffaa
open Go Go.RowKit Go.MapKept

/-- What holds of both memories at the loop's head. -/
structure Pair (w0 wr : World) (n : Nat) (b mm r c : Nat) (a : Option Addr) (M G : Mm) : Prop where
  two : Two wr b mm r c a M G
  alike : Alike M G
  okM : MemOk M
  okG : MemOk G
  last : M.last ≤ n
  hb : w0.heap.size ≤ b ∧ w0.heap.size ≤ mm ∧ w0.heap.size ≤ r
  below : Below w0.heap.size w0 wr
theorem Pair.below' {w0 w V : World} {n b mm r c : Nat} {a : Option Addr} {M G : Mm} (h : Pair w0 w n b mm r c a M G) (hb : Below w.heap.size w V) : Pair w0 V n b mm r c a M G :=
  ⟨h.two.below hb, h.alike, h.okM, h.okG, h.last, h.hb, h.below.trans (hb.mono h.below.size)⟩
theorem Pair.lts {w0 w : World} {n b mm r c : Nat} {a : Option Addr} {M G : Mm} (h : Pair w0 w n b mm r c a M G) : b < w.heap.size ∧ mm < w.heap.size ∧ r < w.heap.size :=
  ⟨h.two.mi.foot_lt (.inl rfl), h.two.mi.foot_lt (.inr (.inl rfl)), h.two.ri.foot_lt (.inl rfl)⟩
/-- The round's things: the call's box at X, the values `vin` of one's own from X + 1 on, in neither memory's blocks. -/
structure Round (wx : World) (X : Nat) (o : OpD) (vin : Value) (b mm r : Nat) (a : Option Addr) (M G : Mm) : Prop where
  box : wx.heap[X]? = some (.cells #[.int .i64 o.kind, .int .i64 o.t, .int .i64 o.id, .slice o.a o.n o.c] 52 (0, 0))
  own : ∃ s', s'.length = o.s.length ∧ OwnV wx (X + 1) vin s'
  far : ∀ k, vin.ownBlock = some k → ¬ MFoot b mm M k ∧ ¬ RefFoot r a G k

set_option maxHeartbeats 1000000 in
/-- Add, and the document's Add. -/
theorem chain1 {w0 wr W : World} {n b mm r c X : Nat} {a : Option Addr} {M G : Mm} {o : OpD} {vin : Value} (hP : Pair w0 wr n b mm r c a M G) (hX : wr.heap.size = X) (hW : Below wr.heap.size wr W) (hbox : W.heap[X]? = some (.cells #[.int .i64 o.kind, .int .i64 o.t, .int .i64 o.id, .slice o.a o.n o.c] 52 (0, 0)))
    (hin : OwnV W (X + 1) vin o.s) (hs : SlIs wr (.slice o.a o.n o.c) o.s) (hn : n ≤ 1000) :
    Calls Try.prog 11 #[.pointer (some ⟨b, 0, none⟩), .int .i64 o.t, vin] W fun e V => ∃ id fr er, e = .returned (.tuple #[.int .i64 id, .bool fr, .int .i64 er]) ∧ V.heap[X]? = W.heap[X]? ∧
      Calls Try.prog 26 #[.pointer (some ⟨r, 0, none⟩), .int .i64 o.t, .slice o.a o.n o.c] V fun e2 V2 => e2 = .returned (.tuple #[.int .i64 id, .bool fr, .int .i64 er]) ∧ ∃ c' a' M' G', Pair w0 V2 (n + 1) b mm r c' a' M' G' ∧ Round V2 X o vin b mm r a' M' G' := by
  have hP1 := hP.below' hW
  obtain ⟨l1, l2, l3⟩ := hP.lts
  have hXW : X < W.heap.size := lt_of_heap hbox
  have hlast := hP.last
  have hlast2 : G.last < 1000000000 := by have := hP.alike.last; omega
  refine (madd_all b mm M hP.okM (by omega) o.t vin o.s W hP1.two.mi (hin.sl hs.1).1).mono ?_
  rintro e V ⟨M', id, fr, er, rfl, ha, hm, ho, hf⟩
  have hT1 := hP1.two.memstep hm ho (fun k hk => by
    simp only [List.mem_cons, List.not_mem_nil, or_false] at hk
    rcases hk with rfl | rfl
    · exact .inl (.inl rfl)
    · exact .inl (.inr (.inl rfl))) hf
  have hVX : V.heap[X]? = W.heap[X]? := ho.block X hXW (by simp; omega)
  have hsV : SlIs V (.slice o.a o.n o.c) o.s := (hs.only (Only.of_below hW []) (by simp)).only ho fun hne k hk => by
    have := hP1.two.mi.apart (hs.only (Only.of_below hW []) (by simp)) hne hk
    simpa using this
  refine ⟨id, fr, er, rfl, hVX, (radd_all r c a G hP.okG hlast2 o.t _ o.s V hT1.ri hsV).mono ?_⟩
  rintro e V2 ⟨G', id', fr', er', a', c', rfl, hg, hr, ho2, hf2⟩
  obtain ⟨hal, rfl, rfl, rfl⟩ := ha.alike hP.alike hg
  have hT2 := hT1.refstep hr ho2 (fun k hk => by
    simp only [List.mem_cons, List.not_mem_nil, or_false] at hk
    exact .inl (.inl hk)) hf2
  obtain ⟨okM', hl'⟩ := ha.ok hP.okM
  obtain ⟨okG', _⟩ := hg.ok hP.okG
  obtain ⟨q1, q2, q3⟩ := hP.hb
  have hB1 : Below w0.heap.size w0 V := below_only hP1.below ho (by simp; omega) hP1.below.size
  have hB2 : Below w0.heap.size w0 V2 := below_only hB1 ho2 (by simp; omega) hB1.size
  have hWV := ho.size
  refine ⟨rfl, c', a', M', G', ⟨hT2, hal, okM', okG', by omega, hP.hb, hB2⟩, ?_, ⟨o.s, rfl, ?_⟩, fun k hk => ?_⟩
  · exact (ho2.block X (by omega) (by simp; omega)).trans (hVX.trans hbox)
  · refine owns_only (owns_only hin ho fun k hk => ?_) ho2 fun k hk => ?_
    · have := (World.ownsRow.lt hin k hk).1
      simp
      omega
    · have := (World.ownsRow.lt hin k hk).1
      simp
      omega
  · obtain ⟨g1, g2⟩ := World.ownsRow.lt hin k hk
    constructor
    · intro q
      rcases hf k q with q | q
      · have := hP.two.mi.foot_lt q
        omega
      · omega
    · intro q
      rcases hf2 k q with q | q
      · have := hP.two.ri.foot_lt q
        omega
      · omega

theorem Round.below {w V : World} {X : Nat} {o : OpD} {vin : Value} {b mm r : Nat} {a : Option Addr} {M G : Mm} (h : Round w X o vin b mm r a M G) (hb : Below w.heap.size w V) : Round V X o vin b mm r a M G := by
  obtain ⟨s', e, ho⟩ := h.own
  exact ⟨(hb.block X (lt_of_heap h.box)).trans h.box, ⟨s', e, own_below ho hb⟩, h.far⟩

set_option maxHeartbeats 1000000 in
/-- Remove, the document's Remove, and fact. -/
theorem chain2 {w0 wr W : World} {n b mm r c X : Nat} {a : Option Addr} {M G : Mm} {o : OpD} {vin : Value} (hP : Pair w0 wr n b mm r c a M G) (hX : wr.heap.size = X) (hW : Below wr.heap.size wr W) (hbox : W.heap[X]? = some (.cells #[.int .i64 o.kind, .int .i64 o.t, .int .i64 o.id, .slice o.a o.n o.c] 52 (0, 0)))
    (hin : OwnV W (X + 1) vin o.s) :
    Calls Try.prog 14 #[.pointer (some ⟨b, 0, none⟩), .int .i64 o.id] W fun e V => ∃ i t xa xn xc ok, e = .returned (.tuple #[.agg #[.int .i64 i, .int .i64 t, .slice xa xn xc], .bool ok]) ∧ V.heap[X]? = W.heap[X]? ∧ X < V.heap.size ∧
      Calls Try.prog 27 #[.pointer (some ⟨r, 0, none⟩), .int .i64 o.id] (V.alloc (.cells #[.int .i64 i, .int .i64 t, .slice xa xn xc] 34)) fun e2 V2 => ∃ ya yn yc, e2 = .returned (.tuple #[.agg #[.int .i64 i, .int .i64 t, .slice ya yn yc], .bool ok]) ∧ V2.heap[V.heap.size]? = some (.cells #[.int .i64 i, .int .i64 t, .slice xa xn xc] 34 (0, 0)) ∧
        Calls Try.prog 28 #[.agg #[.int .i64 i, .int .i64 t, .slice xa xn xc], .bool ok, .agg #[.int .i64 i, .int .i64 t, .slice ya yn yc], .bool ok] (V2.alloc (.cells #[.int .i64 i, .int .i64 t, .slice ya yn yc] 34)) fun e3 V3 => e3 = .returned (.bool true) ∧ ∃ c' a' M' G', Pair w0 V3 n b mm r c' a' M' G' ∧ Round V3 X o vin b mm r a' M' G' := by
  have hP1 := hP.below' hW
  obtain ⟨l1, l2, l3⟩ := hP.lts
  have hXW : X < W.heap.size := lt_of_heap hbox
  refine (mremove_all b mm M hP.okM o.id W hP1.two.mi).mono ?_
  rintro e V ⟨i, t, x, s, ok, rfl, hg, hxs, hfr, hm, ho⟩
  obtain ⟨xa, xn, xc, rfl⟩ := hxs.form
  have hT1 := hP1.two.memstep hm ho (fun k hk => by
    simp only [List.mem_cons, List.not_mem_nil, or_false] at hk
    subst hk
    exact .inl (.inr (.inl rfl))) fun k hk => by
      rcases hk with rfl | rfl | ⟨f, hf, hs, hk⟩
      · exact .inl (.inl rfl)
      · exact .inl (.inr (.inl rfl))
      · exact .inl (.inr (.inr ⟨f, (List.mem_filter.1 hf).1, hs, hk⟩))
  have hVX : V.heap[X]? = W.heap[X]? := ho.block X hXW (by simp; omega)
  have hWV := ho.size
  refine ⟨i, t, xa, xn, xc, ok, rfl, hVX, by omega, ?_⟩
  have hbA : Below V.heap.size V (V.alloc (.cells #[.int .i64 i, .int .i64 t, .slice xa xn xc] 34)) := ((Only.refl [] V).alloc _).below
  have hTA := hT1.below hbA
  have hsA : (V.alloc (.cells #[.int .i64 i, .int .i64 t, .slice xa xn xc] 34)).heap.size = V.heap.size + 1 := by simp
  refine (rremove_all r c a G hP.okG o.id _ hTA.ri).mono ?_
  rintro e V2 ⟨i', t', y, s', ok', a', c', rfl, hg', hys, hr, ho2, hf2⟩
  obtain ⟨rfl, rfl, rfl, rfl⟩ := hg.alike hP.okG hP.alike hg'
  obtain ⟨ya, yn, yc, rfl⟩ := hys.form
  have hT2 := hTA.refstep hr ho2 (fun k hk => by
    simp only [List.mem_cons, List.not_mem_nil, or_false] at hk
    exact .inl (.inl hk)) hf2
  have hV2 := ho2.size
  have hbx : V2.heap[V.heap.size]? = some (.cells #[.int .i64 i, .int .i64 t, .slice xa xn xc] 34 (0, 0)) := (ho2.block V.heap.size (by omega) (by simp; omega)).trans (heap_new V _)
  refine ⟨ya, yn, yc, rfl, hbx, ?_⟩
  have hbB : Below V2.heap.size V2 (V2.alloc (.cells #[.int .i64 i, .int .i64 t, .slice ya yn yc] 34)) := ((Only.refl [] V2).alloc _).below
  have hx2 : SlIs V2 (.slice xa xn xc) s := (hxs.only (Only.of_below hbA []) (by simp)).only ho2 fun _ k hk => by
    have := hfr.le hk
    simp
    omega
  refine (fact_same i t _ _ s ok _ (hx2.only (Only.of_below hbB []) (by simp)) (hys.only (Only.of_below hbB []) (by simp))).mono ?_
  rintro e V3 ⟨rfl, hb3⟩
  have hb23 : Below V2.heap.size V2 V3 := hbB.trans (hb3.mono hbB.size)
  obtain ⟨q1, q2, q3⟩ := hP.hb
  have hB1 : Below w0.heap.size w0 V := below_only hP1.below ho (by simp; omega) hP1.below.size
  have hBA : Below w0.heap.size w0 _ := hB1.trans (hbA.mono hB1.size)
  have hB2 : Below w0.heap.size w0 V2 := below_only hBA ho2 (by simp; omega) hBA.size
  have hR : Round V2 X o vin b mm r a' (M.del o.id) (G.del o.id) := by
    refine ⟨(ho2.block X (by omega) (by simp; omega)).trans ((hbA.block X (by omega)).trans (hVX.trans hbox)), ⟨o.s, rfl, ?_⟩, fun k hk => ?_⟩
    · refine owns_only (own_below (owns_only hin ho fun k hk => ?_) hbA) ho2 fun k hk => ?_
      · have := (World.ownsRow.lt hin k hk).1
        simp
        omega
      · have := (World.ownsRow.lt hin k hk).1
        simp
        omega
    · obtain ⟨g1, g2⟩ := World.ownsRow.lt hin k hk
      constructor
      · rintro (rfl | rfl | ⟨f, hf, hs, hq⟩)
        · omega
        · omega
        · have := hP.two.mi.foot_lt (.inr (.inr ⟨f, (List.mem_filter.1 hf).1, hs, hq⟩))
          omega
      · intro q
        rcases hf2 k q with q | q
        · have := hP.two.ri.foot_lt q
          omega
        · omega
  exact ⟨rfl, c', a', _, _, (Pair.below' ⟨hT2, hP.alike.del o.id, hP.okM.del o.id, hP.okG.del o.id, hP.last, hP.hb, hB2⟩ hb23), hR.below hb23⟩

theorem Pair.up {w0 w : World} {n m b mm r c : Nat} {a : Option Addr} {M G : Mm} (h : Pair w0 w n b mm r c a M G) (hn : n ≤ m) : Pair w0 w m b mm r c a M G :=
  ⟨h.two, h.alike, h.okM, h.okG, by have := h.last; omega, h.hb, h.below⟩
theorem Round.of_far {w V : World} {X : Nat} {o : OpD} {vin : Value} {b mm r : Nat} {a : Option Addr} {M G : Mm} {S : List Nat} (hbox : w.heap[X]? = some (.cells #[.int .i64 o.kind, .int .i64 o.t, .int .i64 o.id, .slice o.a o.n o.c] 52 (0, 0))) (hin : OwnV w (X + 1) vin o.s) (ho : Only S w V) (hS : ∀ k ∈ S, k < X ∨ w.heap.size ≤ k)
    (hM : ∀ k, MFoot b mm M k → k < X ∨ w.heap.size ≤ k) (hR : ∀ k, RefFoot r a G k → k < X ∨ w.heap.size ≤ k) : Round V X o vin b mm r a M G := by
  have hX := lt_of_heap hbox
  refine ⟨(ho.block X hX fun q => by have := hS X q; omega).trans hbox, ⟨o.s, rfl, owns_only hin ho fun k hk q => ?_⟩, fun k hk => ⟨fun q => ?_, fun q => ?_⟩⟩
  · have := World.ownsRow.lt hin k hk
    have := hS k q
    omega
  · have := World.ownsRow.lt hin k hk
    have := hM k q
    omega
  · have := World.ownsRow.lt hin k hk
    have := hR k q
    omega

set_option maxHeartbeats 1000000 in
/-- A copy is gone on with: Copy, Remove of the old one, the document's Copy. -/
theorem chain3 {w0 wr W : World} {n b mm r c X : Nat} {a : Option Addr} {M G : Mm} {o : OpD} {vin : Value} (hP : Pair w0 wr n b mm r c a M G) (hX : wr.heap.size = X) (hW : Below wr.heap.size wr W) (hbox : W.heap[X]? = some (.cells #[.int .i64 o.kind, .int .i64 o.t, .int .i64 o.id, .slice o.a o.n o.c] 52 (0, 0)))
    (hin : OwnV W (X + 1) vin o.s) :
    Calls Try.prog 29 #[.pointer (some ⟨b, 0, none⟩)] W fun e V => ∃ b', e = .returned (.pointer (some ⟨b', 0, none⟩)) ∧ V.heap[X]? = W.heap[X]? ∧
      Calls Try.prog 14 #[.pointer (some ⟨b, 0, none⟩), .int .i64 o.id] V fun e2 V2 => ∃ i t xa xn xc ok, e2 = .returned (.tuple #[.agg #[.int .i64 i, .int .i64 t, .slice xa xn xc], .bool ok]) ∧ V2.heap[X]? = W.heap[X]? ∧
        Calls Try.prog 30 #[.pointer (some ⟨r, 0, none⟩)] V2 fun e3 V3 => ∃ r', e3 = .returned (.pointer (some ⟨r', 0, none⟩)) ∧ ∃ mm' c' a', Pair w0 V3 n b' mm' r' c' a' M G ∧ Round V3 X o vin b' mm' r' a' M G := by
  have hP1 := hP.below' hW
  obtain ⟨l1, l2, l3⟩ := hP.lts
  have hXW : X < W.heap.size := lt_of_heap hbox
  refine (mcopy_any b mm M W hP1.two.mi).mono ?_
  rintro e V ⟨b', mm', rfl, hm, hb, hb1, hb2⟩
  have hWV := hb.size
  have hbX := hb.block X hXW
  refine ⟨b', rfl, hbX, ?_⟩
  have hT0 := hP1.two.below hb
  have hT1 : Two V b' mm' r c a M G := hP1.two.memstep (S := []) hm (Only.of_below hb []) (by simp) fun k hk => by
    rcases hk with rfl | rfl | q
    · exact .inr hb1
    · exact .inr hb2
    · exact .inl (.inr (.inr q))
  refine (mremove_all b mm M hP.okM o.id V hT0.mi).mono ?_
  rintro e V2 ⟨i, t, x, s, ok, rfl, hg, hxs, hfr, _, ho⟩
  obtain ⟨xa, xn, xc, rfl⟩ := hxs.form
  have hT2 : Two V2 b' mm' r c a M G := hT1.other ho fun k hk => by
    simp only [List.mem_cons, List.not_mem_nil, or_false] at hk
    subst hk
    refine ⟨?_, hP.two.apart k (.inr (.inl rfl))⟩
    rintro (q | q | ⟨f, hf, hs, hk⟩)
    · omega
    · omega
    · exact ((hP.two.mi.vals f hf).2 hs k hk).2 rfl
  have hV2 := ho.size
  refine ⟨i, t, xa, xn, xc, ok, rfl, (ho.block X (by omega) (by simp; omega)).trans hbX, ?_⟩
  refine (rmcopy_any r c a G V2 hT2.ri).mono ?_
  rintro e V3 ⟨r', a', c', rfl, hr, hf, hr1, hb3⟩
  have hT3 := hT2.refstep (S := []) hr (Only.of_below hb3 []) (by simp) fun k hk => by
    rcases hk with rfl | q
    · exact .inr hr1
    · exact (hf k q).imp .inr fun q => q
  obtain ⟨q1, q2, q3⟩ := hP.hb
  have hw0 := hP1.below.size
  have hB1 : Below w0.heap.size w0 V := hP1.below.trans (hb.mono hw0)
  have hB2 : Below w0.heap.size w0 V2 := below_only hB1 ho (by simp; omega) hB1.size
  refine ⟨r', rfl, mm', c', a', ⟨hT3, hP.alike, hP.okM, hP.okG, hP.last, ⟨by omega, by omega, by omega⟩, hB2.trans (hb3.mono hB2.size)⟩, ?_⟩
  have hO : Only [mm] W V3 := ((Only.of_below hb [mm]).trans ho).trans (Only.of_below hb3 [mm])
  refine Round.of_far hbox hin hO (by simp; omega) (fun k hk => ?_) fun k hk => ?_
  · rcases hk with rfl | rfl | q
    · exact .inr hb1
    · exact .inr hb2
    · have := hP.two.mi.foot_lt (.inr (.inr q))
      exact .inl (by omega)
  · rcases hk with rfl | q
    · exact .inr (by omega)
    · rcases hf k q with q | q
      · have := hP.two.ri.foot_lt (.inr q)
        exact .inl (by omega)
      · exact .inr (by omega)

set_option maxHeartbeats 1000000 in
/-- A copy is changed, and left: Copy, Remove, Add. -/
theorem chain4 {w0 wr W : World} {n b mm r c X : Nat} {a : Option Addr} {M G : Mm} {o : OpD} {vin : Value} (hP : Pair w0 wr n b mm r c a M G) (hX : wr.heap.size = X) (hW : Below wr.heap.size wr W) (hbox : W.heap[X]? = some (.cells #[.int .i64 o.kind, .int .i64 o.t, .int .i64 o.id, .slice o.a o.n o.c] 52 (0, 0)))
    (hin : OwnV W (X + 1) vin o.s) (hs : o.s.length ≤ 1000000) (hn : n ≤ 1000) :
    Calls Try.prog 29 #[.pointer (some ⟨b, 0, none⟩)] W fun e V => ∃ b', e = .returned (.pointer (some ⟨b', 0, none⟩)) ∧ V.heap[X]? = W.heap[X]? ∧
      Calls Try.prog 14 #[.pointer (some ⟨b', 0, none⟩), .int .i64 o.id] V fun e2 V2 => ∃ i t xa xn xc ok, e2 = .returned (.tuple #[.agg #[.int .i64 i, .int .i64 t, .slice xa xn xc], .bool ok]) ∧ V2.heap[X]? = W.heap[X]? ∧
        Calls Try.prog 11 #[.pointer (some ⟨b', 0, none⟩), .int .i64 o.t, vin] V2 fun e3 V3 => ∃ id fr er, e3 = .returned (.tuple #[.int .i64 id, .bool fr, .int .i64 er]) ∧ Pair w0 V3 n b mm r c a M G ∧ Round V3 X o vin b mm r a M G := by
  have hP1 := hP.below' hW
  obtain ⟨l1, l2, l3⟩ := hP.lts
  have hXW : X < W.heap.size := lt_of_heap hbox
  have hlast := hP.last
  refine (mcopy_any b mm M W hP1.two.mi).mono ?_
  rintro e V ⟨b', mm', rfl, hm, hb, hb1, hb2⟩
  have hWV := hb.size
  have hbX := hb.block X hXW
  refine ⟨b', rfl, hbX, ?_⟩
  have hlb := hm.foot_lt (.inl rfl)
  have hlm := hm.foot_lt (.inr (.inl rfl))
  refine (mremove_all b' mm' M hP.okM o.id V hm).mono ?_
  rintro e V2 ⟨i, t, x, s, ok, rfl, hg, hxs, hfr, hm2, ho⟩
  obtain ⟨xa, xn, xc, rfl⟩ := hxs.form
  have hV2 := ho.size
  refine ⟨i, t, xa, xn, xc, ok, rfl, (ho.block X (by omega) (by simp; omega)).trans hbX, ?_⟩
  have hinS := (hin.sl hs).1
  have hin2 : SlIs V2 vin o.s := (hinS.only (Only.of_below hb []) (by simp)).only ho fun hne k hk => by
    have := hinS.blk_lt hne hk
    simp
    omega
  refine (madd_all b' mm' (M.del o.id) (hP.okM.del o.id) (by simp only [Mm.del]; omega) o.t vin o.s V2 hm2 hin2).mono ?_
  rintro e V3 ⟨M', id, fr, er, rfl, _, _, ho3, _⟩
  have hO : Only [b', mm'] W V3 := ((Only.of_below hb [b', mm']).trans (ho.mono (by simp))).trans ho3
  obtain ⟨q1, q2, q3⟩ := hP.hb
  have hw0 := hP1.below.size
  refine ⟨id, fr, er, rfl, ⟨hP1.two.other hO fun k hk => ?_, hP.alike, hP.okM, hP.okG, hP.last, hP.hb, below_only hP1.below hO (by simp; omega) hw0⟩, ?_⟩
  · simp only [List.mem_cons, List.not_mem_nil, or_false] at hk
    exact hP1.two.lt (by omega)
  · refine Round.of_far hbox hin hO (by simp; omega) (fun k hk => ?_) fun k hk => ?_
    · have := hP.two.mi.foot_lt hk
      exact .inl (by omega)
    · have := hP.two.ri.foot_lt hk
      exact .inl (by omega)
end Go.Proofs.Yteealadflekffaa
