/- MemoryPlays: what is asked behind each call. -/
import Derived.Test.YteealadflekffaaRMD
namespace Go.Proofs.Yteealadflekffaa
open Go Go.RowKit Go.MapKept

theorem gf (l : List Fc) : fflat l = gflat l := by
  induction l with
  | nil => rfl
  | cons f l ih => simp [fflat, gflat, Fc.cells] at ih ⊢; exact ih
theorem say_small {w : World} {a : Option Addr} {out l : List Fc} (hs : out.map Fc.say = l.map Fc.say) (h : FsIs w a l) : out.length ≤ 1000000 ∧ ∀ g ∈ out, g.s.length ≤ 1000000 := by
  refine ⟨?_, fun g hg => ?_⟩
  · have := congrArg List.length hs
    simp only [List.length_map] at this
    have := h.len
    omega
  · have hg' : g.say ∈ out.map Fc.say := List.mem_map_of_mem hg
    rw [hs, List.mem_map] at hg'
    obtain ⟨g', hg', e⟩ := hg'
    simp only [Fc.say, Prod.mk.injEq] at e
    rw [← e.2.2]
    exact (h.vals g' hg').1
/-- Both memories, and what they told at a round. -/
structure Told (w0 V : World) (n b mm r c : Nat) (a : Option Addr) (M G : Mm) (X Y B C : Nat) (i t : Int) (f : List Vl) (xf yf va : Value) (out : List Fc) : Prop where
  pair : Pair w0 V n b mm r c a M G
  bx : V.heap[X]? = some (.cells #[.int .i64 i, .int .i64 t, xf] 34 (0, 0))
  bz : V.heap[Y]? = some (.cells #[.int .i64 i, .int .i64 t, yf] 34 (0, 0))
  own : OwnV V B xf f
  ys : SlIs V yf f
  len : f.length ≤ 1000000
  facts : FactsO V C va out
  say : out.map Fc.says = M.l.map Fc.says
  small : out.length ≤ 1000000 ∧ ∀ g ∈ out, g.s.length ≤ 1000000
  hB : w0.heap.size ≤ B
  xlt : ∀ k, xf.ownBlock = some k → k < X
  hX : B ≤ X
  hC : X < C
  far : ∀ k, B ≤ k → ¬ MFoot b mm M k ∧ ¬ RefFoot r a G k
theorem Told.below {w0 V V' : World} {n b mm r c : Nat} {a : Option Addr} {M G : Mm} {X Y B C : Nat} {i t : Int} {f : List Vl} {xf yf va : Value} {out : List Fc} (h : Told w0 V n b mm r c a M G X Y B C i t f xf yf va out) (hb : Below V.heap.size V V') : Told w0 V' n b mm r c a M G X Y B C i t f xf yf va out :=
  ⟨h.pair.below' hb, (hb.block X (lt_of_heap h.bx)).trans h.bx, (hb.block Y (lt_of_heap h.bz)).trans h.bz, own_below h.own hb, h.ys.only (Only.of_below hb []) (by simp), h.len, h.facts.only (S := []) (Only.of_below hb []) (by simp), h.say, h.small, h.hB, h.xlt, h.hX, h.hC, h.far⟩

section
variable {w0 V : World} {n b mm r c : Nat} {a : Option Addr} {M G : Mm} {X Y B C : Nat} {i t : Int} {f : List Vl} {xf yf va : Value} {out : List Fc}
theorem Told.fact (h : Told w0 V n b mm r c a M G X Y B C i t f xf yf va out) (ok : Bool) :
    Calls Try.prog 28 #[.agg #[.int .i64 i, .int .i64 t, xf], .bool ok, .agg #[.int .i64 i, .int .i64 t, yf], .bool ok] V fun e V' => e = .returned (.bool true) ∧ Below V.heap.size V V' :=
  fact_same i t _ _ f ok V (h.own.sl h.len).1 h.ys
theorem Told.find (h : Told w0 V n b mm r c a M G X Y B C i t f xf yf va out) (u : Int) (x : Value) (s : List Vl) (hx : SlIs V x s) :
    Calls Try.prog 15 #[.pointer (some ⟨b, 0, none⟩), .int .i64 u, x] V fun e V' => e = .returned (.int .i64 (M.find u s)) ∧ Below V.heap.size V V' :=
  find_any b mm M h.pair.okM u x s V h.pair.two.mi hx
theorem Told.rfind (h : Told w0 V n b mm r c a M G X Y B C i t f xf yf va out) (u : Int) (x : Value) (s : List Vl) (hx : SlIs V x s) :
    Calls Try.prog 32 #[.pointer (some ⟨r, 0, none⟩), .int .i64 u, x] V fun e V' => e = .returned (.int .i64 (M.find u s)) ∧ Below V.heap.size V V' := by
  refine (rfind_any r c a G u x s V h.pair.two.ri hx).mono ?_
  rintro e V' ⟨rfl, k, rfl⟩
  exact ⟨by rw [h.pair.alike.find], ((Only.refl [] V).drewN k).below⟩
theorem Told.same (h : Told w0 V n b mm r c a M G X Y B C i t f xf yf va out) :
    Calls Try.prog 33 #[va, .slice a G.l.length c] V fun e V' => e = .returned (.bool true) ∧ Below V.heap.size V V' := by
  obtain ⟨a', c', rfl⟩ := h.facts.form
  have hsay : out.map Fc.say = G.l.map Fc.say := (show out.map Fc.say = M.l.map Fc.say from h.say).trans h.pair.alike.l
  obtain ⟨f1, f2, f3⟩ := FsIs.of_own (w := V) (l := out) (show V.ownsRow C 34 3 (.slice a' out.length c') out.length (gflat out) from gf out ▸ h.facts.own) rfl h.small.1 fun g hg => (OwnV.sl (h.facts.vals g hg) (h.small.2 g hg)).1
  refine (sameF_any a' a c' c out G.l V f1 h.pair.two.ri.fs).mono ?_
  rintro e V' ⟨rfl, k, rfl⟩
  exact ⟨by simp [hsay], ((Only.refl [] V).drewN k).below⟩
theorem Told.ml (h : Told w0 V n b mm r c a M G X Y B C i t f xf yf va out) :
    Calls Try.prog 12 #[.pointer (some ⟨b, 0, none⟩)] V fun e V' => e = .returned (.int .i64 (G.l.length : Int)) ∧ Below V.heap.size V V' := by
  refine (len_any b mm M V h.pair.two.mi).mono ?_
  rintro e V' ⟨rfl, rfl⟩
  exact ⟨by rw [h.pair.alike.len], Below.refl _ _⟩
theorem Told.la (h : Told w0 V n b mm r c a M G X Y B C i t f xf yf va out) :
    Calls Try.prog 13 #[.pointer (some ⟨b, 0, none⟩)] V fun e V' => e = .returned (.int .i64 G.last) ∧ Below V.heap.size V V' := by
  refine (last_any b mm M V h.pair.two.mi).mono ?_
  rintro e V' ⟨rfl, rfl⟩
  exact ⟨by rw [h.pair.alike.last], Below.refl _ _⟩
/-- The cells that are read there. -/
theorem Told.cells (h : Told w0 V n b mm r c a M G X Y B C i t f xf yf va out) :
    V.cell? ⟨X, 0, none⟩ = some (.int .i64 i) ∧ V.cell? ⟨X, 1, none⟩ = some (.int .i64 t) ∧ V.cell? ⟨X, 2, none⟩ = some xf ∧ V.cell? ⟨Y, 0, none⟩ = some (.int .i64 i) ∧ V.cell? ⟨Y, 1, none⟩ = some (.int .i64 t) ∧ V.cell? ⟨Y, 2, none⟩ = some yf ∧
      V.cell? ⟨r, 1, none⟩ = some (.int .i64 G.last) ∧ V.cell? ⟨r, 2, none⟩ = some (.slice a G.l.length c) := by
  obtain ⟨x0, x1, x2, _⟩ := cells3 h.bx
  obtain ⟨y0, y1, y2, _⟩ := cells3 h.bz
  obtain ⟨_, r1, r2, _⟩ := cells3 h.pair.two.ri.cells
  exact ⟨x0, x1, x2, y0, y1, y2, r1, r2⟩
/-- A question leaves all as it is. -/
theorem Told.asked {V' : World} {fn : FuncId} {args : Array Value} {v : Ending} (h : Told w0 V n b mm r c a M G X Y B C i t f xf yf va out) (hb : Below V.heap.size V V') (hc : Calls Try.prog fn args V' fun e W => e = v ∧ Below V'.heap.size V' W) :
    Calls Try.prog fn args V' fun e W => e = v ∧ Hid (Below V.heap.size V W) ∧ W.cell? ⟨X, 0, none⟩ = some (.int .i64 i) ∧ W.cell? ⟨X, 1, none⟩ = some (.int .i64 t) ∧ W.cell? ⟨X, 2, none⟩ = some xf ∧ W.cell? ⟨Y, 0, none⟩ = some (.int .i64 i) ∧ W.cell? ⟨Y, 1, none⟩ = some (.int .i64 t) ∧ W.cell? ⟨Y, 2, none⟩ = some yf ∧
      W.cell? ⟨r, 1, none⟩ = some (.int .i64 G.last) ∧ W.cell? ⟨r, 2, none⟩ = some (.slice a G.l.length c) := by
  refine hc.mono ?_
  rintro e W ⟨rfl, hw⟩
  have hW := hb.trans (hw.mono hb.size)
  exact ⟨rfl, hW, (h.below hW).cells⟩
end

set_option maxHeartbeats 1000000 in
theorem chainT {w0 w : World} {n b mm r c : Nat} {a : Option Addr} {M G : Mm} (hP : Pair w0 w n b mm r c a M G) (id : Int) (hn : n ≤ 1000) :
    Calls Try.prog 22 #[.pointer (some ⟨b, 0, none⟩), .int .i64 id] w fun e V1 => ∃ i t xa xn xc ok, e = .returned (.tuple #[.agg #[.int .i64 i, .int .i64 t, .slice xa xn xc], .bool ok]) ∧
      Calls Try.prog 31 #[.pointer (some ⟨r, 0, none⟩), .int .i64 id] (V1.alloc (.cells #[.int .i64 i, .int .i64 t, .slice xa xn xc] 34)) fun e2 V2 => ∃ ya yn yc, e2 = .returned (.tuple #[.agg #[.int .i64 i, .int .i64 t, .slice ya yn yc], .bool ok]) ∧
        Calls Try.prog 24 #[.pointer (some ⟨b, 0, none⟩)] (V2.alloc (.cells #[.int .i64 i, .int .i64 t, .slice ya yn yc] 34)) fun e3 V3 => ∃ va vc f out, e3 = .returned (.slice va out.length vc) ∧ xn = f.length ∧ Below w.heap.size w V3 ∧
          Told w0 V3 n b mm r c a M G V1.heap.size V2.heap.size w.heap.size (V2.heap.size + 1) i t f (.slice xa xn xc) (.slice ya yn yc) (.slice va out.length vc) out := by
  obtain ⟨l1, l2, l3⟩ := hP.lts
  refine (mget_all b mm M hP.okM id w hP.two.mi).mono ?_
  rintro e V1 ⟨i, t, x, s, ok, rfl, hg, hs, hown, hb1⟩
  obtain ⟨xa, xc, rfl⟩ := own_form hown
  refine ⟨i, t, xa, _, xc, ok, rfl, ?_⟩
  have hz1 := hb1.size
  have hbA : Below V1.heap.size V1 (V1.alloc (.cells #[.int .i64 i, .int .i64 t, .slice xa s.length xc] 34)) := ((Only.refl [] V1).alloc _).below
  have hPA := (hP.below' hb1).below' hbA
  have hzA : (V1.alloc (.cells #[.int .i64 i, .int .i64 t, .slice xa s.length xc] 34)).heap.size = V1.heap.size + 1 := by simp
  refine (rget_all r c a G hP.okG id _ hPA.two.ri).mono ?_
  rintro e V2 ⟨i', t', y, s', ok', rfl, hg', hy, hb2⟩
  obtain ⟨rfl, rfl, rfl, rfl⟩ := hg.alike hP.okG hP.alike hg'
  obtain ⟨ya, yn, yc, rfl⟩ := hy.form
  refine ⟨ya, yn, yc, rfl, ?_⟩
  have hz2 := hb2.size
  have hbB : Below V2.heap.size V2 (V2.alloc (.cells #[.int .i64 i, .int .i64 t, .slice ya yn yc] 34)) := ((Only.refl [] V2).alloc _).below
  have hPB := (hPA.below' hb2).below' hbB
  have hzB : (V2.alloc (.cells #[.int .i64 i, .int .i64 t, .slice ya yn yc] 34)).heap.size = V2.heap.size + 1 := by simp
  have hlast := hP.last
  refine (facts_own b mm M hP.okM (by omega) _ hPB.two.mi).mono ?_
  rintro e V3 ⟨v, out, rfl, hf, hsay, hb3⟩
  obtain ⟨va, vc, rfl⟩ := hf.form
  rw [hzB] at hf
  have hb13 : Below V1.heap.size V1 V3 := hbA.trans ((hb2.trans ((hbB.trans (hb3.mono (by omega))).mono hz2)).mono (by omega))
  have hbA3 : Below (V1.alloc (.cells #[.int .i64 i, .int .i64 t, .slice xa s.length xc] 34)).heap.size (V1.alloc (.cells #[.int .i64 i, .int .i64 t, .slice xa s.length xc] 34)) V3 := hb2.trans ((hbB.trans (hb3.mono (by omega))).mono hz2)
  have hb23 : Below V2.heap.size V2 V3 := hbB.trans (hb3.mono (by omega))
  refine ⟨va, vc, s, out, rfl, rfl, hb1.trans (hb13.mono hz1), hPB.below' hb3, ?_, ?_, own_below hown hb13, hy.only (Only.of_below hb23 []) (by simp), hs, hf, hsay, say_small ((show out.map Fc.say = M.l.map Fc.say from hsay).trans hP.alike.l) hP.two.ri.fs, hP.below.size, fun k hk => (World.ownsRow.lt hown k hk).2, hz1, by omega, fun k hk => hP.two.lt hk⟩
  · exact (hbA3.block V1.heap.size (by simp)).trans (heap_new V1 _)
  · exact (hb3.block V2.heap.size (by simp)).trans (heap_new V2 _)

/-- What was told is written over. -/
structure Spent (w0 V : World) (n b mm r c : Nat) (a : Option Addr) (M G : Mm) (X B C : Nat) (i t : Int) (m : Nat) (xf va : Value) (out : List Fc) : Prop where
  pair : Pair w0 V n b mm r c a M G
  bx : V.heap[X]? = some (.cells #[.int .i64 i, .int .i64 t, xf] 34 (0, 0))
  own : ∃ f, f.length = m ∧ OwnV V B xf f
  sp : SpF V C va out
  small : m ≤ 1000000 ∧ out.length ≤ 1000000 ∧ ∀ g ∈ out, g.s.length ≤ 1000000
  hB : w0.heap.size ≤ B
  xlt : ∀ k, xf.ownBlock = some k → k < X
  hX : B ≤ X
  hC : X < C
  far : ∀ k, B ≤ k → ¬ MFoot b mm M k ∧ ¬ RefFoot r a G k
theorem Told.spent {w0 V : World} {n b mm r c : Nat} {a : Option Addr} {M G : Mm} {X Y B C : Nat} {i t : Int} {f : List Vl} {xf yf va : Value} {out : List Fc} (h : Told w0 V n b mm r c a M G X Y B C i t f xf yf va out) : Spent w0 V n b mm r c a M G X B C i t f.length xf va out :=
  ⟨h.pair, h.bx, ⟨f, rfl, h.own⟩, h.facts.sp, ⟨h.len, h.small⟩, h.hB, h.xlt, h.hX, h.hC, h.far⟩
section
variable {w0 V : World} {n b mm r c : Nat} {a : Option Addr} {M G : Mm} {X B C : Nat} {i t : Int} {m : Nat} {xf va : Value} {out : List Fc}
theorem Spent.below {V' : World} (h : Spent w0 V n b mm r c a M G X B C i t m xf va out) (hb : Below V.heap.size V V') : Spent w0 V' n b mm r c a M G X B C i t m xf va out := by
  obtain ⟨f, hf, ho⟩ := h.own
  exact ⟨h.pair.below' hb, (hb.block X (lt_of_heap h.bx)).trans h.bx, ⟨f, hf, own_below ho hb⟩, h.sp.below hb, h.small, h.hB, h.xlt, h.hX, h.hC, h.far⟩
/-- One of a fact's values. -/
theorem Spent.poke (h : Spent w0 V n b mm r c a M G X B C i t m xf va out) {g : Fc} (hg : g ∈ out) {q l k' : Nat} (hx : g.x = .slice (some ⟨q, 0, none⟩) l k') (k : Nat) (z : Int) : Spent w0 (V.setCell ⟨q, k * 3 + 1, none⟩ (.int .i64 z)) n b mm r c a M G X B C i t m xf va out := by
  obtain ⟨s, _, o⟩ := h.sp.vals g hg
  have hq := (World.ownsRow.lt o q (by rw [hx]; rfl)).1
  have := h.hB; have := h.hX; have := h.hC
  obtain ⟨f, hf, ho⟩ := h.own
  obtain ⟨f', hf', ho'⟩ := ho.poke q k z
  exact ⟨h.pair.far (by omega) (h.far q (by omega)), (Below.heap_setCell _ _ _ _ (show X ≠ q by omega)).trans h.bx, ⟨f', hf'.trans hf, ho'⟩, h.sp.poke hg hx k z, h.small, h.hB, h.xlt, h.hX, h.hC, h.far⟩
/-- One of the values of what Get told. -/
theorem Spent.poke2 (h : Spent w0 V n b mm r c a M G X B C i t m xf va out) {q l k' : Nat} (hx : xf = .slice (some ⟨q, 0, none⟩) l k') (k : Nat) (z : Int) : Spent w0 (V.setCell ⟨q, k * 3 + 1, none⟩ (.int .i64 z)) n b mm r c a M G X B C i t m xf va out := by
  obtain ⟨f, hf, ho⟩ := h.own
  have hq := (World.ownsRow.lt ho q (by rw [hx]; rfl)).1
  have hq2 := h.xlt q (by rw [hx]; rfl)
  have := h.hB; have := h.hC
  obtain ⟨f', hf', ho'⟩ := ho.poke q k z
  have ho1 : Only [q] V (V.setCell ⟨q, k * 3 + 1, none⟩ (.int .i64 z)) := (Only.refl _ _).setCell (.inl (by simp)) _
  refine ⟨h.pair.far (by omega) (h.far q hq), (Below.heap_setCell _ _ _ _ (show X ≠ q by omega)).trans h.bx, ⟨f', hf'.trans hf, ho'⟩, ⟨owns_only h.sp.own ho1 fun k hk hm => ?_, fun g hg => ?_⟩, h.small, h.hB, h.xlt, h.hX, h.hC, h.far⟩
  · have := (World.ownsRow.lt h.sp.own k hk).1
    simp only [List.mem_singleton] at hm
    omega
  · obtain ⟨s, hs, o⟩ := h.sp.vals g hg
    exact ⟨s, hs, owns_only o ho1 fun k hk hm => by
      have := (World.ownsRow.lt o k hk).1
      simp only [List.mem_singleton] at hm
      omega⟩
end
end Go.Proofs.Yteealadflekffaa
