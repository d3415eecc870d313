/- TruthPlays: the walk of step, the law's walk. -/
import Derived.Test.YtmcajoccfbebiaaRTG
import Derived.Deep.CutRange
import Derived.Deep.CutBlock
import Derived.Test.YtmcajoccfbebiaaTrKW
namespace Go.Proofs.Ytmcajoccfbebiaa
open Go Go.RowKit Go.MapKept Go.Sort

/-- The boxes are laid. -/
theorem Bx.mk1 {V X : World} {q p : Nat} {d : OpD} {ga : Option Addr} {gc N : Nat} (h1 : X.heap[q]? = some (.cells #[.int .i64 d.k, .int .i64 d.id, .int .i64 d.j.r, .slice d.j.a d.j.n d.j.c] 55 (0, 0))) (h2 : X.heap[p]? = some (.cells #[.int .i64 d.j.r, .slice ga d.j.t.length gc] 53 (0, 0)))
    (h3 : X.ownsRow N 3 1 (.slice ga d.j.t.length gc) d.j.t.length (d.j.t.map (.int .i64))) (h4 : NIs V (.slice d.j.a d.j.n d.j.c) d.j.t) (h5 : Below V.heap.size V X) : Bx X q p d ga gc N := ⟨h1, h2, h3, h4.below h5⟩
theorem ss_start {W0 V X : World} {b m r n q p gc N : Nat} {M L : List Sp} {v : Value} {d : OpD} {ga : Option Addr} (h : PSt W0 V b m M r v L n) (hb : Below V.heap.size V X) (hx : Bx X q p d ga gc N) (hN : V.heap.size ≤ N) : SS W0 X b m M r v L q p d ga gc N := by
  have hlt : ∀ k, k ∈ tblk ga d.j.t.length gc → V.heap.size ≤ k := fun k hk => by
    unfold tblk at hk
    rw [Option.mem_toList] at hk
    have := (hx.row.lt k hk).1
    omega
  have hrow : ∀ {B : Nat} {t : TypeId} {s n : Nat} {u : Value} {xs : List Value}, V.ownsRow B t s u n xs → AvV (· ∉ tblk ga d.j.t.length gc) u := fun hr => AvV.own2 hr fun k _ hk hm => by have := hlt k hm; omega
  refine ⟨h.two.to hb, hx, h.two.av.mono fun k hk hm => by have := hlt k hm; omega, hrow h.two.rf.row, fun p hp => ?_⟩
  have := h.two.rf.js p hp
  exact ⟨hrow this.2.own, fun j hj => hrow (this.2.tups j hj).2⟩
theorem rows_same {X : World} {x y : Value} {l l' : List Int} (hx : NIs X x l) (hy : NIs X y l') (e : l = l') : Calls Try.prog 35 #[x, y] X fun e X' => e = .returned (.int .i64 0) ∧ Below X.heap.size X X' := by
  subst e
  have h := rows_any x y l l X hx hy
  rwa [(cmpL_zero l l).2 rfl] at h
/-- Where the switch's ways meet. -/
def Met (W0 X : World) (q p : Nat) (d : OpD) (ga : Option Addr) (gc N n : Nat) (u0 u1 u10 : Value) : Prop :=
  ∃ b m M r v L, u0 = .pointer (some ⟨b, 0, none⟩) ∧ u1 = .pointer (some ⟨r, 0, none⟩) ∧ u10 = .bool true ∧ SS W0 X b m M r v L q p d ga gc N ∧ PB M L n

/-- The copy is laid into its box. -/
theorem bx_lay {V X : World} {q p N : Nat} {d : OpD} {ga : Option Addr} {gc : Nat} (hb : Below V.heap.size V X) (hq : X.heap[q]? = some (.cells #[.int .i64 d.k, .int .i64 d.id, .int .i64 d.j.r, .slice d.j.a d.j.n d.j.c] 55 (0, 0))) (hp : X.heap[p]? = some (.cells #[.int .i64 0, .slice none 0 0] 53 (0, 0))) (hpV : V.heap.size ≤ p)
    (hr : X.ownsRow N 3 1 (.slice ga d.j.t.length gc) d.j.t.length (d.j.t.map (.int .i64))) (ha : NIs V (.slice d.j.a d.j.n d.j.c) d.j.t) : Below V.heap.size V ((X.setCell ⟨p, 0, none⟩ (.int .i64 d.j.r)).setCell ⟨p, 1, none⟩ (.slice ga d.j.t.length gc)) ∧ Bx ((X.setCell ⟨p, 0, none⟩ (.int .i64 d.j.r)).setCell ⟨p, 1, none⟩ (.slice ga d.j.t.length gc)) q p d ga gc N := by
  have ho : Only [p] X ((X.setCell ⟨p, 0, none⟩ (.int .i64 d.j.r)).setCell ⟨p, 1, none⟩ (.slice ga d.j.t.length gc)) := ((Only.refl [p] X).setCell (.inl (by simp)) _).setCell (.inl (by simp)) _
  have hB := below_only hb ho (fun i hi => by simp only [List.mem_singleton] at hi; omega) hb.size
  refine ⟨hB, (ho.block q (lt_of_heap hq) (fun hm => ?_)).trans hq, ?_, owns_only hr ho (fun k hk hm => ?_), ha.below hB⟩
  · simp only [List.mem_singleton] at hm
    subst hm
    rw [hp] at hq
    have : (53 : TypeId) = 55 := by injection hq with h1; injection h1
    exact absurd this (by decide)
  · rw [setCell_heap (setCell_heap hp)]
    rfl
  · simp only [List.mem_singleton] at hm
    subst hm
    exact owns_not hr hp (by decide) hk
/-- Another book of truth's: what it has. -/
structure OB (X : World) (c mc : Nat) (Mc : List Sp) (k : Nat) : Prop where
  bk : BookIs X c mc Mc
  len : Mc.length ≤ k
  nd : (Mc.map Sp.id).Nodup
  jl : ∀ x, (getD Mc x).js.length ≤ k
theorem OB.put {X X' : World} {c mc k : Nat} {Mc : List Sp} {q : Sp} (h : OB X c mc Mc k) (hb : BookIs X' c mc (putS Mc q)) (hq : q.js.length ≤ k + 1) : OB X' c mc (putS Mc q) (k + 1) :=
  ⟨hb, by have := putS_length Mc q; have := h.len; omega, put_nodup q h.nd, fun x => by
    rw [getD_put]
    split
    · exact hq
    · have := h.jl x
      omega⟩
section
variable {W0 X : World} {b m r q p gc N c mc k : Nat} {M L Mc : List Sp} {v : Value} {d : OpD} {ga : Option Addr}
theorem ob_drop (h : SS W0 X b m M r v L q p d ga gc N) (ho : OB X c mc Mc k) (hne : m ≠ mc) (h0 : W0.heap.size ≤ mc) (id : Int) :
    Calls Try.prog 33 #[.pointer (some ⟨c, 0, none⟩), .int .i64 id] X fun e X' => ∃ dv, e = .returned (.bool dv) ∧ SS W0 X' b m M r v L q p d ga gc N ∧ ∃ Mc', OB X' c mc Mc' k :=
  (drop_any c mc Mc id X ho.bk).mono fun _ _ ⟨h1, h2, h3⟩ => ⟨_, h1, h.other ho.bk.map hne h0 h3, _, h2, Nat.le_trans (List.length_filter_le _ _) ho.len, ho.nd.sublist (List.filter_sublist.map _), fun x => by
    rw [getD_drop]
    split
    · simp
    · exact ho.jl x⟩
theorem ob_with (h : SS W0 X b m M r v L q p d ga gc N) (ho : OB X c mc Mc k) (hne : m ≠ mc) (h0 : W0.heap.size ≤ mc) (hk : k < 900) (h20 : d.j.t.length ≤ 20) :
    Calls Try.prog 42 #[.pointer (some ⟨c, 0, none⟩), (d.own ga gc).val] X fun e X' => ∃ va n vc, e = .returned (.slice va n vc) ∧ SS W0 X' b m M r v L q p d ga gc N :=
  (withdraw2_any c mc Mc (d.own ga gc) X ho.bk (ss_own h h20) (by have := ho.len; omega) ho.nd (fun x => by have := ho.jl x; omega)).mono fun _ _ ⟨_, h1, h2, _, h3⟩ => by
    obtain ⟨a, e, rfl⟩ := row_form h2
    exact ⟨_, _, _, h1, h.other ho.bk.map hne h0 h3⟩
theorem ob_just (h : SS W0 X b m M r v L q p d ga gc N) (ho : OB X c mc Mc k) (hne : m ≠ mc) (h0 : W0.heap.size ≤ mc) (hk : k < 900) (h20 : d.j.t.length ≤ 20) (id : Int) (hwf : (Lit.int .i64 id).wf = true) :
    Calls Try.prog 28 #[.pointer (some ⟨c, 0, none⟩), .int .i64 id, (d.own ga gc).val] X fun e X' => ∃ dv, e = .returned (.bool dv) ∧ SS W0 X' b m M r v L q p d ga gc N ∧ ∃ Mc', OB X' c mc Mc' (k + 1) :=
  (justify2_any c mc Mc id (d.own ga gc) X ho.bk (ss_own h h20) hwf (by have := ho.len; omega) (by have := ho.jl id; omega)).mono fun _ _ ⟨h1, ⟨q', _, _, a3, a4, _⟩, h3⟩ => ⟨_, h1, h.other ho.bk.map hne h0 h3, _, ho.put a4 (by
    have a3' : q'.js.map Jc.co = justR (getD Mc id).js (d.own ga gc) := a3
    have e := congrArg List.length a3'
    rw [List.length_map] at e
    have := justR_len (getD Mc id).js (d.own ga gc)
    have := ho.jl id
    omega)⟩
theorem ob_plain (h : SS W0 X b m M r v L q p d ga gc N) (ho : OB X c mc Mc k) (hne : m ≠ mc) (h0 : W0.heap.size ≤ mc) (hk : k < 900) (id : Int) (hwf : (Lit.int .i64 id).wf = true) :
    Calls Try.prog 27 #[.pointer (some ⟨c, 0, none⟩), .int .i64 id] X fun e X' => e = .returned (.tuple #[]) ∧ SS W0 X' b m M r v L q p d ga gc N ∧ ∃ Mc', OB X' c mc Mc' (k + 1) :=
  (plain_any c mc Mc id X ho.bk hwf (by have := ho.len; omega)).mono fun _ _ ⟨h1, h2, h3⟩ => ⟨h1, h.other ho.bk.map hne h0 h3, _, ho.put h2 (by have := ho.jl id; simp only; omega)⟩
end
theorem row_poke {w : World} {B n k g : Nat} {z : Int} {x : Value} {t : List Int} (h : w.ownsRow B 3 1 x n (t.map (.int .i64))) :
    ∃ t' : List Int, (w.setCell ⟨g, k, none⟩ (.int .i64 z)).ownsRow B 3 1 x n (t'.map (.int .i64)) := by
  have hl := h.1
  rcases h.2 with ⟨rfl, hn⟩ | ⟨g', cap, cur, rfl, hb, hg, h1, h2, h3, h4⟩
  · exact ⟨t, hl, .inl ⟨rfl, hn⟩⟩
  · by_cases hgg : g' = g
    · subst hgg
      refine ⟨t.set k z, by simpa using hl, .inr ⟨g', cap, cur.setIfInBounds k (.int .i64 z), rfl, hb, setCell_heap hg, h1, h2, by simpa using h3, ?_⟩⟩
      rw [Array.toList_setIfInBounds, List.take_set, h4, List.map_set]
    · exact ⟨t, hl, .inr ⟨g', cap, cur, rfl, hb, (Below.heap_setCell _ _ _ _ hgg).trans hg, h1, h2, h3, h4⟩⟩
/-- A cell of a row of one's own. -/
theorem row_at {w : World} {B n k : Nat} {va : Option Addr} {vc : Nat} {t : List Int} (h : w.ownsRow B 3 1 (.slice va n vc) n (t.map (.int .i64))) (hk : k < n) : ∃ g z, va = some ⟨g, 0, none⟩ ∧ B ≤ g ∧ w.cell? ⟨g, k, none⟩ = some (.int .i64 z) ∧ w.frozen? ⟨g, k, none⟩ = false := by
  have hl : t.length = n := by have := h.1; simpa using this
  rcases h.2 with ⟨_, h0⟩ | ⟨g, cap, cur, e, hb, hg, _⟩
  · omega
  · cases e
    have hz : (t.map (Value.int .i64))[k]? = some (.int .i64 t[k]) := by simp [hl, hk]
    have hcell := h.cells (g := g) rfl k _ hz
    simp only [Addr.add_lit, Nat.zero_add] at hcell
    exact ⟨g, _, rfl, hb, hcell, by simp [World.frozen?, hg]⟩

set_option maxRecDepth 100000 in
set_option maxHeartbeats 16000000 in
theorem step29_any (W0 V : World) (b m : Nat) (M : List Sp) (r : Nat) (v : Value) (L : List Sp) (n : Nat) (d : OpD) (h : PSt W0 V b m M r v L n) (hn : n < 100) (hJ : JOk V d.j) (h20 : d.j.n ≤ 20) (hwf : (Lit.int .i64 d.id).wf = true) :
    Calls Try.prog 37 #[.pointer (some ⟨b, 0, none⟩), .pointer (some ⟨r, 0, none⟩), .agg #[.int .i64 d.k, .int .i64 d.id, .int .i64 d.j.r, .slice d.j.a d.j.n d.j.c]] V fun e V' => ∃ b' m' M' r' v' L', e = .returned (.tuple #[.pointer (some ⟨b', 0, none⟩), .pointer (some ⟨r', 0, none⟩), .bool true]) ∧ PSt W0 V' b' m' M' r' v' L' (n + 1) := by
  obtain ⟨hlen, hJ⟩ := hJ.2 (by omega)
  obtain ⟨kd, id, ⟨jr, ja, jn, jc, jt⟩⟩ := d
  simp only at hlen hJ h20 hwf ⊢
  subst hlen
  obtain ⟨V1, hV1⟩ : ∃ V1, V.alloc (Obj.cells #[.int .i64 kd, .int .i64 id, .int .i64 jr, .slice ja jt.length jc] 55) = V1 := ⟨_, rfl⟩
  have hb1 : Below V.heap.size V V1 := by rw [← hV1]; exact ((Only.refl [] V).alloc _).below
  have hbx := heap_alloc0 V (Obj.cells #[.int .i64 kd, .int .i64 id, .int .i64 jr, .slice ja jt.length jc] 55)
  have hz1 : V1.heap.size = V.heap.size + 1 := by rw [← hV1]; simp
  rw [hV1] at hbx
  have o2 : V1.cell? ⟨V.heap.size, 2, none⟩ = some (.int .i64 jr) := by simp [World.cell?, hbx]
  have o3 : V1.cell? ⟨V.heap.size, 3, none⟩ = some (.slice ja jt.length jc) := by simp [World.cell?, hbx]
  have H0 : Hid (W0.heap.size ≤ V1.heap.size) := hide (by have := h.two.below.size; omega)
  have H := hide h
  have HV1 := hide hV1
  have Hb1 := hide hb1
  have Hbx := hide hbx
  have HJ := hide hJ
  have hlt1 : V.heap.size < V1.heap.size := by omega
  obtain ⟨i1, hi1, hu0, hu1, hu2⟩ := int_parts
  have Hi1 := hide hi1
  have Hu0 := hide hu0
  have Hu1 := hide hu1
  have Hu2 := hide hu2
  clear h hV1 hb1 hbx hz1 hJ hi1 hu0 hu1 hu2
  go_enter Try.func37, Try.ntmps37
  go_upto_region 1 with fail
  rw [HV1.out]
  go_cut [9] from 14 to 22 (fun u9 wx => ∃ (p : Nat) (ga : Option Addr) (gc : Nat), u9 = .pointer (some ⟨p, 0, none⟩) ∧ Hid (Below V.heap.size V wx ∧ Bx wx V.heap.size p ⟨kd, id, ⟨jr, ja, jt.length, jc, jt⟩⟩ ga gc V1.heap.size))
  case first =>
    have hone : ∀ u ∈ jt.map (Value.int .i64), u.oneCell' = true := fun u hu => by
      obtain ⟨z, _, rfl⟩ := List.mem_map.1 hu
      rfl
    have hbA : Below V1.heap.size V1 ((V1.alloc (Obj.cells #[] 3)).drew) := ((Only.refl [] V1).alloc _).drew.below
    have hbB : Below V1.heap.size V1 (((V1.alloc (Obj.cells #[] 3)).alloc (Obj.cells #[.int .i64 0, .slice none 0 0] 53)).drew) := (((Only.refl [] V1).alloc _).alloc _).drew.below
    have hbC : Below V1.heap.size V1 (((V1.alloc (Obj.cells #[.int .i64 0, .slice none 0 0] 53)).alloc (Obj.cells #[] 3)).drew) := (((Only.refl [] V1).alloc _).alloc _).drew.below
    have heA : ((V1.alloc (Obj.cells #[] 3)).drew).ownsRow V1.heap.size 3 1 (.slice (some ⟨V1.heap.size, 0, none⟩) 0 0) 0 [] := own_empty1 1 (heap_alloc0 V1 _) (Nat.le_refl _)
    have hsA : V1.heap.size + 1 = (V1.alloc (Obj.cells #[] 3)).heap.size := by simp
    have hsC : V1.heap.size + 1 = (V1.alloc (Obj.cells #[.int .i64 0, .slice none 0 0] 53)).heap.size := by simp
    have heB : (((V1.alloc (Obj.cells #[] 3)).alloc (Obj.cells #[.int .i64 0, .slice none 0 0] 53)).drew).ownsRow V1.heap.size 3 1 (.slice (some ⟨V1.heap.size, 0, none⟩) 0 0) 0 [] := (show (V1.alloc (Obj.cells #[] 3)).ownsRow V1.heap.size 3 1 (.slice (some ⟨V1.heap.size, 0, none⟩) 0 0) 0 [] from own_empty1 1 (heap_alloc0 V1 _) (Nat.le_refl _)).alloc _
    have hxB : (((V1.alloc (Obj.cells #[] 3)).alloc (Obj.cells #[.int .i64 0, .slice none 0 0] 53)).drew).heap[V1.heap.size + 1]? = some (Obj.cells #[.int .i64 0, .slice none 0 0] 53) := by rw [hsA]; exact heap_alloc0 (V1.alloc (Obj.cells #[] 3)) _
    have heC : (((V1.alloc (Obj.cells #[.int .i64 0, .slice none 0 0] 53)).alloc (Obj.cells #[] 3)).drew).ownsRow V1.heap.size 3 1 (.slice (some ⟨V1.heap.size + 1, 0, none⟩) 0 0) 0 [] := own_empty1 1 (by rw [hsC]; exact heap_alloc0 (V1.alloc (Obj.cells #[.int .i64 0, .slice none 0 0] 53)) _) (by omega)
    have hxC : (((V1.alloc (Obj.cells #[.int .i64 0, .slice none 0 0] 53)).alloc (Obj.cells #[] 3)).drew).heap[V1.heap.size]? = some (Obj.cells #[.int .i64 0, .slice none 0 0] 53) := (MapKept.heap_alloc (V1.alloc (Obj.cells #[.int .i64 0, .slice none 0 0] 53)) (Obj.cells #[] 3)).2 V1.heap.size (by simp) |>.trans (heap_alloc0 V1 _)
    have Hone := hide hone
    have HbA := hide hbA
    have HbB := hide hbB
    have HbC := hide hbC
    have HeA := hide heA
    have HeB := hide heB
    have HeC := hide heC
    have HxB := hide hxB
    have HxC := hide hxC
    have HJs : Hid (∀ X, Below V1.heap.size V1 X → SrcN X 1 (.slice ja jt.length jc) jt.length (jt.map (Value.int .i64))) := hide fun X hX => ((HJ.out.below Hb1.out).below hX).srcN
    have Hq : Hid (∀ X, Below V1.heap.size V1 X → X.cell? ⟨V.heap.size, 2, none⟩ = some (.int .i64 jr) ∧ X.cell? ⟨V.heap.size, 3, none⟩ = some (.slice ja jt.length jc) ∧ X.heap[V.heap.size]? = some (.cells #[.int .i64 kd, .int .i64 id, .int .i64 jr, .slice ja jt.length jc] 55 (0, 0))) := hide fun X hX => ⟨(hX.cell (lt_of_cell o2)).trans o2, (hX.cell (lt_of_cell o3)).trans o3, (hX.block V.heap.size hlt1).trans Hbx.out⟩
    clear hone hbA hbB hbC heA heB heC hxB hxC hsA hsC
    go_wp2_with fail
    go_region_held3 (fun X => X.cell? ⟨V.heap.size, 2, none⟩ = some (.int .i64 jr) ∧ X.cell? ⟨V.heap.size, 3, none⟩ = some (.slice ja jt.length jc)) (first | exact ⟨w2, w3⟩ | go_keep)
      (first
        | (refine step_append_any rfl (.tmp 17) (.tmp 20) 36 rfl V1.heap.size 3 i1 (.int .i64 0) 1 8 Try.underlying36 Hi1.out Hu0.out Hu1.out Hu2.out rfl (by decide) (.slice (some ⟨V1.heap.size + 1, 0, none⟩) 0 0) 0 [] ?_ HeC.out (.slice ja jt.length jc) jt.length (jt.map (.int .i64)) ?_ (HJs.out _ HbC.out) Hone.out (by unfold maxLen; omega) (by omega) HbC.out.size ?_; (focus (first | (simp [Act.eval]; done) | rfl | (simp [Act.eval, Act.put]; done))); (focus (first | (simp [Act.eval]; done) | rfl | (simp [Act.eval, Act.put]; done))); intro v2 X ho2 hg2; simp only [Nat.zero_add, List.nil_append] at ho2; obtain ⟨na, nc, rfl⟩ := row_form ho2; have hX := HbC.out.grown hg2 HbC.out.size (fun k e => by simp only [Value.ownBlock, Option.some.injEq] at e; omega); obtain ⟨y2, y3, yq⟩ := Hq.out X hX; have hxA := bx_lay (d := ⟨kd, id, ⟨jr, ja, jt.length, jc, jt⟩⟩) (Hb1.out.trans (hX.mono (Nat.le_of_lt hlt1))) yq ((hg2.block V1.heap.size (lt_of_heap HxC.out) (by simp [Value.ownBlock])).trans HxC.out) (by omega) ho2 HJ.out; have HF := hide hxA; obtain ⟨_, _, w2, w3, _⟩ := hxA.2.cells; simp only at w2 w3; obtain ⟨u0, u1, uf0, uf1⟩ := cells2e ((hg2.block V1.heap.size (lt_of_heap HxC.out) (by simp [Value.ownBlock])).trans HxC.out); clear hxA; clear ho2 hg2 hX)
        | (refine step_append_any rfl (.tmp 17) (.tmp 20) 36 rfl V1.heap.size 3 i1 (.int .i64 0) 1 8 Try.underlying36 Hi1.out Hu0.out Hu1.out Hu2.out rfl (by decide) (.slice (some ⟨V1.heap.size, 0, none⟩) 0 0) 0 [] ?_ HeB.out (.slice ja jt.length jc) jt.length (jt.map (.int .i64)) ?_ (HJs.out _ HbB.out) Hone.out (by unfold maxLen; omega) (by omega) HbB.out.size ?_; (focus (first | (simp [Act.eval]; done) | rfl | (simp [Act.eval, Act.put]; done))); (focus (first | (simp [Act.eval]; done) | rfl | (simp [Act.eval, Act.put]; done))); intro v2 X ho2 hg2; simp only [Nat.zero_add, List.nil_append] at ho2; obtain ⟨na, nc, rfl⟩ := row_form ho2; have hX := HbB.out.grown hg2 HbB.out.size (fun k e => by simp only [Value.ownBlock, Option.some.injEq] at e; omega); obtain ⟨y2, y3, yq⟩ := Hq.out X hX; have hxA := bx_lay (d := ⟨kd, id, ⟨jr, ja, jt.length, jc, jt⟩⟩) (Hb1.out.trans (hX.mono (Nat.le_of_lt hlt1))) yq ((hg2.block (V1.heap.size + 1) (lt_of_heap HxB.out) (by simp [Value.ownBlock])).trans HxB.out) (by omega) ho2 HJ.out; have HF := hide hxA; obtain ⟨_, _, w2, w3, _⟩ := hxA.2.cells; simp only at w2 w3; have hzX := lt_of_heap ((hg2.block (V1.heap.size + 1) (lt_of_heap HxB.out) (by simp [Value.ownBlock])).trans HxB.out); obtain ⟨u0, u1, uf0, uf1⟩ := cells2e ((hg2.block (V1.heap.size + 1) (lt_of_heap HxB.out) (by simp [Value.ownBlock])).trans HxB.out); clear hxA; clear ho2 hg2 hX)
        | (refine step_append_any rfl (.tmp 17) (.tmp 20) 36 rfl V1.heap.size 3 i1 (.int .i64 0) 1 8 Try.underlying36 Hi1.out Hu0.out Hu1.out Hu2.out rfl (by decide) (.slice (some ⟨V1.heap.size, 0, none⟩) 0 0) 0 [] ?_ HeA.out (.slice ja jt.length jc) jt.length (jt.map (.int .i64)) ?_ (HJs.out _ HbA.out) Hone.out (by unfold maxLen; omega) (by omega) HbA.out.size ?_; (focus (first | (simp [Act.eval]; done) | rfl | (simp [Act.eval, Act.put]; done))); (focus (first | (simp [Act.eval]; done) | rfl | (simp [Act.eval, Act.put]; done))); intro v2 X ho2 hg2; simp only [Nat.zero_add, List.nil_append] at ho2; obtain ⟨na, nc, rfl⟩ := row_form ho2; have hX := HbA.out.grown hg2 HbA.out.size (fun k e => by simp only [Value.ownBlock, Option.some.injEq] at e; omega); obtain ⟨y2, y3, yq⟩ := Hq.out X hX; have hxA := bx_lay (d := ⟨kd, id, ⟨jr, ja, jt.length, jc, jt⟩⟩) ((Hb1.out.trans (hX.mono (Nat.le_of_lt hlt1))).alloc (by have := hX.size; omega) (Obj.cells #[.int .i64 0, .slice none 0 0] 53)) (((Below.refl X.heap.size X).alloc (Nat.le_refl _) (Obj.cells #[.int .i64 0, .slice none 0 0] 53)).block V.heap.size (by have := hX.size; omega) |>.trans yq) (heap_alloc0 X _) (by have := hX.size; omega) (ho2.alloc _) HJ.out; have HF : Hid (Below V.heap.size V (X.alloc (Obj.cells #[.int .i64 jr, .slice na jt.length nc] 53)) ∧ Bx (X.alloc (Obj.cells #[.int .i64 jr, .slice na jt.length nc] 53)) V.heap.size X.heap.size ⟨kd, id, ⟨jr, ja, jt.length, jc, jt⟩⟩ na nc V1.heap.size) := hide ⟨(Hb1.out.trans (hX.mono (Nat.le_of_lt hlt1))).alloc (by have := hX.size; omega) _, Bx.mk1 (((Below.refl X.heap.size X).alloc (Nat.le_refl _) _).block V.heap.size (by have := hX.size; omega) |>.trans yq) (heap_alloc0 X _) (ho2.alloc _) HJ.out ((Hb1.out.trans (hX.mono (Nat.le_of_lt hlt1))).alloc (by have := hX.size; omega) _)⟩; obtain ⟨_, _, w2, w3, _⟩ := hxA.2.cells; simp only at w2 w3; clear hxA; clear ho2 hg2 hX))
    all_goals
      go_wp2
      go_meet
      case rel => exact ⟨_, _, _, rfl, HF.out⟩
  case rest =>
    obtain ⟨p, ga, gc, rfl, hB⟩ := hcut
    have HS0 : Hid (SS W0 wc b m M r v L V.heap.size p ⟨kd, id, ⟨jr, ja, jt.length, jc, jt⟩⟩ ga gc V1.heap.size) := hide (ss_start H.out hB.out.1 hB.out.2 (Nat.le_of_lt hlt1))
    have HP := hide H.out.pb
    have hl2 : M.length < 900 := by have := HP.out.mlen; omega
    have hl3 : L.length < 900 := by have := HP.out.len; omega
    have hmj : (getD M id).js.length < 900 := by have := HP.out.mjl id; omega
    have hlj : (getD L id).js.length < 900 := by have := HP.out.jl id; omega
    clear o2 o3 hB H
    obtain ⟨k0, k1, k2, k3, k4, k5⟩ := HS0.out.bx.cells
    simp only at k0 k1 k2 k3 k4 k5
    obtain ⟨D, hD⟩ : ∃ D : OpD, (⟨kd, id, ⟨jr, ja, jt.length, jc, jt⟩⟩ : OpD) = D := ⟨_, rfl⟩
    have hown : (D.own ga gc).val = .agg #[.int .i64 jr, .slice ga jt.length gc] := by rw [← hD]; rfl
    have hjc : D.j.jc.val = .agg #[.int .i64 jr, .slice ja jt.length jc] := by rw [← hD]; rfl
    have hco : (D.own ga gc).co = D.j.jc.co := by rw [← hD]; rfl
    have hdt : D.j.t = jt := by rw [← hD]
    have hcells : ∀ {X : World} {b m : Nat} {M : List Sp} {r : Nat} {v : Value} {L : List Sp}, SS W0 X b m M r v L V.heap.size p D ga gc V1.heap.size → X.cell? ⟨V.heap.size, 0, none⟩ = some (.int .i64 kd) ∧ X.cell? ⟨V.heap.size, 1, none⟩ = some (.int .i64 id) ∧ X.cell? ⟨V.heap.size, 2, none⟩ = some (.int .i64 jr) ∧ X.cell? ⟨V.heap.size, 3, none⟩ = some (.slice ja jt.length jc) ∧ X.cell? ⟨p, 0, none⟩ = some (.int .i64 jr) ∧ X.cell? ⟨p, 1, none⟩ = some (.slice ga jt.length gc) := fun hh => by
      have := hh.bx.cells
      rw [← hD] at this
      exact this
    rw [hD] at HS0
    have Hown := hide hown
    have Hjc := hide hjc
    have Hco := hide hco
    have Hdt := hide hdt
    have hd20 : D.j.t.length ≤ 20 := by rw [hdt]; exact h20
    clear hD hown hjc hco hdt
    go_upto_block 0 with fail
    go_cut [0, 1, 10, 11, 12] from 25 to 100 (fun u0 u1 u10 _ _ wx => Hid (Met W0 wx V.heap.size p D ga gc V1.heap.size (n + 1) u0 u1 u10))
    case first =>
      by_cases h1 : kd = 1
      · subst h1
        have HA := hide (ss_plain HS0.out (by omega) id hwf)
        go_wp2_with fail
        (with_reducible refine HA.out.mono ?_)
        rintro e X1 ⟨rfl, hS, _⟩
        have HS1 := hide hS
        clear k0 k1 k2 k3 k4 k5 hS HA
        obtain ⟨k0, k1, k2, k3, k4, k5⟩ := hcells HS1.out
        have HB := hide (ss_rplain HS1.out hl3 id)
        go_wp2_with fail
        (with_reducible refine HB.out.mono ?_)
        rintro e X2 ⟨rfl, v2, L2, hS2, hp2⟩
        have HF : Hid (Met W0 X2 V.heap.size p D ga gc V1.heap.size (n + 1) (.pointer (some ⟨b, 0, none⟩)) (.pointer (some ⟨r, 0, none⟩)) (.bool true)) := hide ⟨_, _, _, _, _, _, rfl, rfl, rfl, hS2, HP.out.plain hp2⟩
        clear k0 k1 k2 k3 k4 k5 hS2 hp2 HB
        go_wp2
        go_meet
        case rel => exact HF
      have e1 : (kd == 1) = false := by simpa using h1
      by_cases h2 : kd = 2
      · subst h2
        have hany := HP.out.rel.any id _ _ Hco.out
        obtain ⟨av, hav⟩ : ∃ av, (!(((getD L id).js).any fun x => x.same D.j.jc)) = av := ⟨_, rfl⟩
        have hS0d := HS0.out.to (Only.drew (Only.refl [] wc)).below
        have hA := ss_just hS0d hl2 hd20 id hmj hwf
        have hB := ss_rjust hS0d hl3 id hlj
        have hA2 := fun (X : World) (v' : Value) (L' : List Sp) (hh : SS W0 X b m M r v' L' V.heap.size p D ga gc V1.heap.size) => ss_just hh hl2 hd20 id hmj hwf
        have hB2 := fun (X : World) (M' : List Sp) (hh : SS W0 X b m M' r v L V.heap.size p D ga gc V1.heap.size) => ss_rjust hh hl3 id hlj
        rw [hany, hav, Hown.out] at hA
        rw [hav, Hjc.out] at hB
        simp only [hany, hav, Hown.out] at hA2
        simp only [hav, Hjc.out] at hB2
        have HA := hide hA
        have HB := hide hB
        have HA2 := hide hA2
        have HB2 := hide hB2
        clear hany hav hS0d hA hB hA2 hB2
        go_wp2_with fail
        go_region_held3 (fun X => X.cell? ⟨V.heap.size, 1, none⟩ = some (.int .i64 id) ∧ X.cell? ⟨V.heap.size, 2, none⟩ = some (.int .i64 jr) ∧ X.cell? ⟨V.heap.size, 3, none⟩ = some (.slice ja jt.length jc) ∧ X.cell? ⟨p, 0, none⟩ = some (.int .i64 jr) ∧ X.cell? ⟨p, 1, none⟩ = some (.slice ga jt.length gc)) (go_keep)
          (first
            | ((go_at_call 28; have hqq := HA.out; (with_reducible refine Calls.mono hqq ?_); clear hqq; rintro e X1 ⟨rfl, M1, hS, hT⟩; obtain ⟨_, y1, y2, y3, y4, y5⟩ := hcells hS; have HS1 := hide hS; have HT1 := hide hT; clear hS hT HA HB))
            | ((go_at_call 71; have hqq := HB2.out _ _ HS1.out; (with_reducible refine Calls.mono hqq ?_); clear hqq; rintro e X2 ⟨rfl, v2, L2, hS, hR⟩; obtain ⟨_, z1, z2, z3, z4, z5⟩ := hcells hS; have HF : Hid (Met W0 X2 V.heap.size p D ga gc V1.heap.size (n + 1) (.pointer (some ⟨b, 0, none⟩)) (.pointer (some ⟨r, 0, none⟩)) (.bool true)) := hide ⟨_, _, _, _, _, _, rfl, rfl, rfl, hS, HP.out.just HT1.out hR Hco.out⟩; clear hS hR y1 y2 y3 y4 y5))
            | ((go_at_call 71; have hqq := HB.out; (with_reducible refine Calls.mono hqq ?_); clear hqq; rintro e X1 ⟨rfl, v1, L1, hS, hR⟩; obtain ⟨_, y1, y2, y3, y4, y5⟩ := hcells hS; have HS2 := hide hS; have HR1 := hide hR; clear hS hR HA HB))
            | ((go_at_call 28; have hqq := HA2.out _ _ _ HS2.out; (with_reducible refine Calls.mono hqq ?_); clear hqq; rintro e X2 ⟨rfl, M2, hS, hT⟩; obtain ⟨_, z1, z2, z3, z4, z5⟩ := hcells hS; have HF : Hid (Met W0 X2 V.heap.size p D ga gc V1.heap.size (n + 1) (.pointer (some ⟨b, 0, none⟩)) (.pointer (some ⟨r, 0, none⟩)) (.bool true)) := hide ⟨_, _, _, _, _, _, rfl, rfl, rfl, hS, HP.out.just hT HR1.out Hco.out⟩; clear hS hT y1 y2 y3 y4 y5)))
        all_goals
          clear k0 k1 k2 k3 k4 k5 z1 z2 z3 z4 z5
          go_wp2
          go_meet
          case rel => simpa using HF
      have e2 : (kd == 2) = false := by simpa using h2
      by_cases h3 : kd = 3
      · subst h3
        have hS0d := HS0.out.to (Only.drew (Only.refl [] wc)).below
        have hmjs : ∀ x, (getD M x).js.length < 900 := fun x => by have := HP.out.mjl x; omega
        have hA := ss_with hS0d hl2 HP.out.rel.nd hmjs hd20
        have hB := ss_rwith hS0d hl3
        have hA2 := fun (X : World) (v' : Value) (L' : List Sp) (hh : SS W0 X b m M r v' L' V.heap.size p D ga gc V1.heap.size) => ss_with hh hl2 HP.out.rel.nd hmjs hd20
        have hB2 := fun (X : World) (M' : List Sp) (hh : SS W0 X b m M' r v L V.heap.size p D ga gc V1.heap.size) => ss_rwith hh hl3
        rw [Hown.out] at hA
        rw [Hjc.out] at hB
        simp only [Hown.out] at hA2
        simp only [Hjc.out] at hB2
        have HA := hide hA
        have HB := hide hB
        have HA2 := hide hA2
        have HB2 := hide hB2
        have Hhad := hide (HP.out.had Hco.out)
        clear hS0d hA hB hA2 hB2 hmjs
        go_wp2_with fail
        go_region_held3 (fun X => X.cell? ⟨V.heap.size, 2, none⟩ = some (.int .i64 jr) ∧ X.cell? ⟨V.heap.size, 3, none⟩ = some (.slice ja jt.length jc) ∧ X.cell? ⟨p, 0, none⟩ = some (.int .i64 jr) ∧ X.cell? ⟨p, 1, none⟩ = some (.slice ga jt.length gc)) (go_keep)
          (first
            | ((go_at_call 42; have hqq := HA.out; (with_reducible refine Calls.mono hqq ?_); clear hqq; rintro e X1 ⟨vo, l1, rfl, hn1, he1, _, M1, hS, hT⟩; obtain ⟨_, _, y2, y3, y4, y5⟩ := hcells hS; have HS1 := hide hS; have HT1 := hide hT; have Hn1 := hide hn1; have He1 := hide he1; clear hS hT hn1 he1 HA HB))
            | ((go_at_call 72; have hqq := HB2.out _ _ HS1.out; (with_reducible refine Calls.mono hqq ?_); clear hqq; rintro e X2 ⟨vp, l2, rfl, hn2, he2, hro, L2, hS, hR⟩; obtain ⟨_, _, z2, z3, z4, z5⟩ := hcells hS; have HRw := hide (rows_same (Hn1.out.ronly hro) hn2 (by rw [He1.out, he2, Hhad.out])); have HS2 := hide hS; have HPB : Hid (PB M1 L2 n) := hide (HP.out.wd HT1.out hR Hco.out); clear hS hR hn2 he2 hro y2 y3 y4 y5 HS1 HT1 Hn1 He1))
            | ((go_at_call 72; have hqq := HB.out; (with_reducible refine Calls.mono hqq ?_); clear hqq; rintro e X1 ⟨vp, l2, rfl, hn2, he2, _, L1, hS, hR⟩; obtain ⟨_, _, y2, y3, y4, y5⟩ := hcells hS; have HSr := hide hS; have HR1 := hide hR; have Hn2 := hide hn2; have He2 := hide he2; clear hS hR hn2 he2 HA HB))
            | ((go_at_call 42; have hqq := HA2.out _ _ _ HSr.out; (with_reducible refine Calls.mono hqq ?_); clear hqq; rintro e X2 ⟨vo, l1, rfl, hn1, he1, hkc, M2, hS, hT⟩; obtain ⟨_, _, z2, z3, z4, z5⟩ := hcells hS; have HRw := hide (rows_same hn1 (Hn2.out.keeps hkc) (by rw [he1, He2.out, Hhad.out])); have HS2 := hide hS; have HPB : Hid (PB M2 L1 n) := hide (HP.out.wd hT HR1.out Hco.out); clear hS hT hn1 he1 hkc y2 y3 y4 y5 HSr HR1 Hn2 He2))
            | ((go_at_call 35; have hqq := HRw.out; (with_reducible refine Calls.mono hqq ?_); clear hqq; rintro e X3 ⟨rfl, hb3⟩; have HS3 := hide (HS2.out.to hb3); obtain ⟨_, _, q2, q3, q4, q5⟩ := hcells HS3.out; clear hb3 HS2 HRw z2 z3 z4 z5)))
        all_goals
          have HF : Hid (Met W0 X3 V.heap.size p D ga gc V1.heap.size (n + 1) (.pointer (some ⟨b, 0, none⟩)) (.pointer (some ⟨r, 0, none⟩)) (.bool true)) := hide ⟨_, _, _, _, _, _, rfl, rfl, rfl, HS3.out, HPB.out.mono (Nat.le_succ _)⟩
          clear k0 k1 k2 k3 k4 k5 q2 q3 q4 q5
          go_wp2
          go_meet
          case rel => exact HF
      have e3 : (kd == 3) = false := by simpa using h3
      by_cases h4 : kd = 4
      · subst h4
        have hth := HP.out.there (id := id)
        obtain ⟨dv, hdv⟩ : ∃ dv, (L.any fun p => p.id == id) = dv := ⟨_, rfl⟩
        have hS0d := HS0.out.to (Only.drew (Only.refl [] wc)).below
        have hA := ss_drop hS0d id
        have hB := ss_rdrop hS0d id
        have hA2 := fun (X : World) (v' : Value) (L' : List Sp) (hh : SS W0 X b m M r v' L' V.heap.size p D ga gc V1.heap.size) => ss_drop hh id
        have hB2 := fun (X : World) (M' : List Sp) (hh : SS W0 X b m M' r v L V.heap.size p D ga gc V1.heap.size) => ss_rdrop hh id
        rw [hth, hdv] at hA
        rw [hdv] at hB
        simp only [hth, hdv] at hA2
        simp only [hdv] at hB2
        have HA := hide hA
        have HB := hide hB
        have HA2 := hide hA2
        have HB2 := hide hB2
        clear hth hdv hS0d hA hB hA2 hB2
        go_wp2_with fail
        go_region_held3 (fun X => X.cell? ⟨V.heap.size, 1, none⟩ = some (.int .i64 id)) (go_keep)
          (first
            | ((go_at_call 33; have hqq := HA.out; (with_reducible refine Calls.mono hqq ?_); clear hqq; rintro e X1 ⟨rfl, hS⟩; obtain ⟨_, y1, _⟩ := hcells hS; have HS1 := hide hS; clear hS HA HB))
            | ((go_at_call 73; have hqq := HB2.out _ _ HS1.out; (with_reducible refine Calls.mono hqq ?_); clear hqq; rintro e X2 ⟨rfl, v2, L2, hS, hR⟩; obtain ⟨_, z1, _⟩ := hcells hS; have HF : Hid (Met W0 X2 V.heap.size p D ga gc V1.heap.size (n + 1) (.pointer (some ⟨b, 0, none⟩)) (.pointer (some ⟨r, 0, none⟩)) (.bool true)) := hide ⟨_, _, _, _, _, _, rfl, rfl, rfl, hS, (HP.out.drop hR).mono (Nat.le_succ _)⟩; clear hS hR y1))
            | ((go_at_call 73; have hqq := HB.out; (with_reducible refine Calls.mono hqq ?_); clear hqq; rintro e X1 ⟨rfl, v1, L1, hS, hR⟩; obtain ⟨_, y1, _⟩ := hcells hS; have HSr := hide hS; have HR1 := hide hR; clear hS hR HA HB))
            | ((go_at_call 33; have hqq := HA2.out _ _ _ HSr.out; (with_reducible refine Calls.mono hqq ?_); clear hqq; rintro e X2 ⟨rfl, hS⟩; obtain ⟨_, z1, _⟩ := hcells hS; have HF : Hid (Met W0 X2 V.heap.size p D ga gc V1.heap.size (n + 1) (.pointer (some ⟨b, 0, none⟩)) (.pointer (some ⟨r, 0, none⟩)) (.bool true)) := hide ⟨_, _, _, _, _, _, rfl, rfl, rfl, hS, (HP.out.drop HR1.out).mono (Nat.le_succ _)⟩; clear hS y1)))
        all_goals
          clear k0 k1 k2 k3 k4 k5 z1
          go_wp2
          go_meet
          case rel => simpa using HF
      have e4 : (kd == 4) = false := by simpa using h4
      by_cases h5 : kd = 5
      · subst h5
        have hmlt := HS0.out.two.bk.map.lt
        have hm0 := HS0.out.two.hm
        have HC := hide (ss_copy HS0.out)
        go_wp2_with fail
        (with_reducible refine HC.out.mono ?_)
        rintro e X1 ⟨b2, m2, rfl, _, hb2, hm2, hSo, hSn⟩
        have HO1 : Hid (OB X1 b m M n) := hide ⟨hSo.two.bk, HP.out.mlen, HP.out.rel.nd, HP.out.mjl⟩
        have HS1 := hide hSn
        clear k0 k1 k2 k3 k4 k5 hSo hSn HC
        obtain ⟨k0, k1, k2, k3, k4, k5⟩ := hcells HS1.out
        have HA := hide (ob_drop HS1.out HO1.out (by omega) hm0 id)
        go_wp2_with fail
        (with_reducible refine HA.out.mono ?_)
        rintro e X2 ⟨dv, rfl, hS, M2, hO⟩
        have HS2 := hide hS
        clear k0 k1 k2 k3 k4 k5 hS HA HS1 HO1
        obtain ⟨k0, k1, k2, k3, k4, k5⟩ := hcells HS2.out
        have hB := ob_with HS2.out hO (by omega) hm0 (by omega) hd20
        rw [Hown.out] at hB
        have HB := hide hB
        clear hB hO
        go_wp2_with fail
        (with_reducible refine HB.out.mono ?_)
        rintro e X3 ⟨ra, rn, rc, rfl, hS⟩
        have HS3 := hide hS
        clear k0 k1 k2 k3 k4 k5 hS HB HS2
        have HD := hide (ss_rcopy HS3.out)
        go_wp2_with fail
        (with_reducible refine HD.out.mono ?_)
        rintro e X4 ⟨r2, v2, rfl, hS⟩
        have HF : Hid (Met W0 X4 V.heap.size p D ga gc V1.heap.size (n + 1) (.pointer (some ⟨b2, 0, none⟩)) (.pointer (some ⟨r2, 0, none⟩)) (.bool true)) := hide ⟨_, _, _, _, _, _, rfl, rfl, rfl, hS, HP.out.mono (Nat.le_succ _)⟩
        clear hS HD
        go_wp2
        go_meet
        case rel => exact HF
      have e5 : (kd == 5) = false := by simpa using h5
      by_cases h6 : kd = 6
      · subst h6
        have hmlt := HS0.out.two.bk.map.lt
        have hWlt := HS0.out.two.below.size
        have HC := hide (ss_copy HS0.out)
        go_wp2_with fail
        (with_reducible refine HC.out.mono ?_)
        rintro e X1 ⟨b2, m2, rfl, hbk, hb2, hm2, hSo, _⟩
        have HO1 : Hid (OB X1 b2 m2 M n) := hide ⟨hbk, HP.out.mlen, HP.out.rel.nd, HP.out.mjl⟩
        have HS1 := hide hSo
        clear k0 k1 k2 k3 k4 k5 hSo hbk HC
        obtain ⟨k0, k1, k2, k3, k4, k5⟩ := hcells HS1.out
        have hA := ob_just HS1.out HO1.out (by omega) (by omega) (by omega) hd20 id hwf
        rw [Hown.out] at hA
        have HA := hide hA
        clear hA
        go_wp2_with fail
        (with_reducible refine HA.out.mono ?_)
        rintro e X2 ⟨dv, rfl, hS, M2, hO⟩
        have HS2 := hide hS
        clear k0 k1 k2 k3 k4 k5 hS HA HS1 HO1
        obtain ⟨k0, k1, k2, k3, k4, k5⟩ := hcells HS2.out
        have HB := hide (ob_plain HS2.out hO (by omega) (by omega) (by omega) id hwf)
        clear hO
        go_wp2_with fail
        (with_reducible refine HB.out.mono ?_)
        rintro e X3 ⟨rfl, hS, M3, hO⟩
        have HS3 := hide hS
        clear k0 k1 k2 k3 k4 k5 hS HB HS2
        obtain ⟨k0, k1, k2, k3, k4, k5⟩ := hcells HS3.out
        have hC := ob_with HS3.out hO (by omega) (by omega) (by omega) hd20
        rw [Hown.out] at hC
        have HC := hide hC
        clear hC hO
        go_wp2_with fail
        (with_reducible refine HC.out.mono ?_)
        rintro e X4 ⟨ra, rn, rc, rfl, hS⟩
        have HF : Hid (Met W0 X4 V.heap.size p D ga gc V1.heap.size (n + 1) (.pointer (some ⟨b, 0, none⟩)) (.pointer (some ⟨r, 0, none⟩)) (.bool true)) := hide ⟨_, _, _, _, _, _, rfl, rfl, rfl, hS, HP.out.mono (Nat.le_succ _)⟩
        clear k0 k1 k2 k3 k4 k5 hS HC
        go_wp2
        go_meet
        case rel => exact HF
      have e6 : (kd == 6) = false := by simpa using h6
      have HF : Hid (Met W0 wc V.heap.size p D ga gc V1.heap.size (n + 1) (.pointer (some ⟨b, 0, none⟩)) (.pointer (some ⟨r, 0, none⟩)) (.bool true)) := hide ⟨_, _, _, _, _, _, rfl, rfl, rfl, HS0.out, HP.out.mono (Nat.le_succ _)⟩
      go_wp2
      go_meet
      case rel => exact HF
    case rest =>
      obtain ⟨b', m', M', r', v', L', rfl, rfl, rfl, hS, hPB⟩ := hcut.out
      obtain ⟨X, rfl⟩ : ∃ X : World, X = wc := ⟨_, rfl⟩
      have hrow := hS.bx.row
      have hpn : p ∉ tblk ga D.j.t.length gc := fun hm => by
        unfold tblk at hm
        rw [Option.mem_toList] at hm
        exact owns_not hrow hS.bx.jb (by decide) hm
      have hfin : ∀ wr, Only (tblk ga jt.length gc) X wr → Two W0 wr b' m' M' r' v' L' := fun wr ho => by
        rw [← Hdt.out] at ho
        have hge : ∀ i ∈ tblk ga D.j.t.length gc, V1.heap.size ≤ i := fun i hi => (hS.lt hi).1
        have hW0 := H0.out
        refine hS.two.apart ho (fun i hi => by have := hge i hi; omega) hS.avM hS.avV hS.avL (fun hm => ?_) (fun hm => ?_) (fun hm => ?_)
        · unfold tblk at hm
          rw [Option.mem_toList] at hm
          exact owns_not hrow hS.two.bk.blk (by decide) hm
        · unfold tblk at hm
          rw [Option.mem_toList] at hm
          obtain ⟨es, c, h1, _⟩ := hS.two.bk.map
          rcases hrow.2 with ⟨e, _⟩ | ⟨g, cap, cur, e, _, hg, _⟩
          · rw [e] at hm
            cases hm
          · rw [e] at hm
            simp only [Value.ownBlock, Option.some.injEq] at hm
            subst hm
            rw [h1] at hg
            cases hg
        · unfold tblk at hm
          rw [Option.mem_toList] at hm
          exact owns_not hrow hS.two.rf.blk (by decide) hm
      obtain ⟨_, _, _, _, k4', k5'⟩ := hcells hS
      rw [Hdt.out] at hrow hpn
      have Hk : Hid (∀ wr, Only (tblk ga jt.length gc) X wr → wr.cell? ⟨p, 0, none⟩ = some (.int .i64 jr) ∧ wr.cell? ⟨p, 1, none⟩ = some (.slice ga jt.length gc)) := hide fun wr ho => ⟨(ho.cell (lt_of_cell k4') hpn).trans k4', (ho.cell (lt_of_cell k5') hpn).trans k5'⟩
      have Hrow := hide hrow
      have Hfin := hide hfin
      have HPB := hide hPB
      clear hS hPB hrow hpn hfin k0 k1 k2 k3 k4 k5 k4' k5' HS0 HP hcells hcut
      obtain ⟨c4, c5⟩ := Hk.out X (Only.refl _ _)
      go_wp2_with fail
      go_loopw [13, 104] (fun _ vi wr => ∃ (i : Nat) (t' : List Int), i ≤ jt.length ∧ vi = .int .i64 i ∧ Hid (Only (tblk ga jt.length gc) X wr ∧ wr.ownsRow V1.heap.size 3 1 (.slice ga jt.length gc) jt.length (t'.map (.int .i64)))) (fun _ vi _ => jt.length - (intOf vi).toNat)
      case atStart => exact ⟨0, jt, Nat.zero_le _, rfl, Only.refl _ _, Hrow.out⟩
      case round =>
        obtain ⟨i, t', hi, rfl, hq⟩ := hrel
        obtain ⟨ho, hr⟩ := hq.out
        clear c4 c5
        obtain ⟨c4, c5⟩ := Hk.out wr ho
        by_cases hil : i < jt.length
        · obtain ⟨g, z, rfl, hg, e0, ef⟩ := row_at hr hil
          obtain ⟨t2, hr2⟩ := row_poke (g := g) (k := i) (z := -1) hr
          have HF := hide (And.intro (ho.setCell (p := ⟨g, i, none⟩) (.inl (by simp [tblk, Value.ownBlock])) (.int .i64 (-1))) hr2)
          clear hq ho hr hr2 hg
          go_wp2
          go_roundw
          case rel => exact ⟨i + 1, t2, by omega, by go_num, HF.out⟩
          case measure => simp [intOf]; omega
        · obtain rfl : i = jt.length := by omega
          have HF := hide (Hfin.out wr ho)
          clear hq ho hr
          go_wp2
          refine bodyPost_ret (v := .tuple #[.pointer (some ⟨b', 0, none⟩), .pointer (some ⟨r', 0, none⟩), .bool true]) (by simp [results, Try.results37, go_sem, *]) rfl ?_
          exact ⟨b', m', M', r', v', L', rfl, HF.out, HPB.out⟩

theorem PRel.lost {M L : List Sp} {l1 l2 : List Int} (h : PRel M L) (h1 : ∃ P : Int → Bool, (∀ x ∈ Go.Proofs.Ytmcajoccfbebiaa.idsS M, P x = true ↔ Held M x) ∧ l1 = (Go.Proofs.Ytmcajoccfbebiaa.idsS M).filter fun x => !P x) (h2 : ∃ P : Int → Bool, (∀ x ∈ L.map Sp.id, P x = true ↔ Held L x) ∧ l2 = (L.map Sp.id).filter fun x => !P x) : l1 = l2 := by
  obtain ⟨P, hP, rfl⟩ := h1
  obtain ⟨P', hP', rfl⟩ := h2
  rw [h.idsS] at hP ⊢
  refine List.filter_congr fun x hx => ?_
  have : P x = P' x := by rw [Bool.eq_iff_iff, hP x hx, hP' x hx, h.held]
  rw [this]
/-- What Of told may be written over: the row's cells stand, each tuple is a row of ints of its length. -/
structure OSp (B : Nat) (X : World) (v : Value) (js : List Jc) : Prop where
  at_ : ∀ i (h : i < js.length), ∃ g c xa xc, v = .slice (some ⟨g, 0, none⟩) js.length c ∧ js[i].x = .slice xa js[i].tup.length xc ∧ X.cell? ⟨g, i * 2 + 1, none⟩ = some (.slice xa js[i].tup.length xc)
  tups : ∀ j ∈ js, ∃ t : List Int, X.ownsRow B 3 1 j.x j.tup.length (t.map (.int .i64))
  apart : ∀ j ∈ js, ∀ k, j.x.ownBlock = some k → v.ownBlock ≠ some k
  lo : ∀ k, v.ownBlock = some k → B ≤ k
  len : ∀ j ∈ js, j.tup.length ≤ 1000000
theorem OfIs.osp {B : Nat} {X : World} {v : Value} {js : List Jc} (h : OfIs B X v js) (hl : js.length ≤ 1000000) : OSp B X v js :=
  ⟨fun i hi => by
    obtain ⟨b, off, cap, xa, xc, e, hx, _, c1⟩ := (h.js hl).at hi
    rcases h.own.2 with ⟨e2, h0⟩ | ⟨g, cap2, cur, e2, _⟩
    · omega
    · rw [e2] at e
      cases e
      simp only [Nat.zero_add] at c1
      exact ⟨_, _, xa, xc, e2, hx, c1⟩, fun j hj => ⟨j.tup, (h.tups j hj).2⟩, fun j hj k hk hv => owns_ne (by decide) (h.tups j hj).2 h.own hk hv, fun k hk => (h.own.lt k hk).1, fun j hj => (h.tups j hj).1⟩
theorem OSp.low {B : Nat} {X X' : World} {S : List Nat} {v : Value} {js : List Jc} (h : OSp B X v js) (ho : Only S X X') (hS : ∀ i ∈ S, i < B) : OSp B X' v js :=
  ⟨fun i hi => by
    obtain ⟨g, c, xa, xc, e, hx, c1⟩ := h.at_ i hi
    have hg := h.lo g (by rw [e]; rfl)
    exact ⟨g, c, xa, xc, e, hx, (ho.cell (lt_of_cell c1) (fun hm => by have := hS g hm; omega)).trans c1⟩, fun j hj => by
    obtain ⟨t, ht⟩ := h.tups j hj
    exact ⟨t, owns_only ht ho fun k hk hm => by have := hS k hm; have := (ht.lt k hk).1; omega⟩, h.apart, h.lo, h.len⟩
theorem OSp.poke {B : Nat} {X : World} {v : Value} {js : List Jc} (h : OSp B X v js) {j : Jc} (hj : j ∈ js) {g k : Nat} (hx : j.x.ownBlock = some g) (z : Int) : OSp B (X.setCell ⟨g, k, none⟩ (.int .i64 z)) v js :=
  ⟨fun i hi => by
    obtain ⟨g', c, xa, xc, e, hx', c1⟩ := h.at_ i hi
    have hne : g' ≠ g := fun q => by
      subst q
      exact h.apart j hj _ hx (by rw [e]; rfl)
    exact ⟨g', c, xa, xc, e, hx', (World.cell?_of_block (w := X) (Below.heap_setCell _ _ _ _ hne)).trans c1⟩, fun b hb => by
    obtain ⟨t, ht⟩ := h.tups b hb
    exact row_poke ht, h.apart, h.lo, h.len⟩

set_option maxRecDepth 100000 in
set_option maxHeartbeats 16000000 in
theorem plays29_walk (vl : Value) (l : List OpD) (id : Int) (w : World) (hl : OpsD w vl l) :
    Calls Try.prog 8 #[vl, .int .i64 id] w fun e w' => e = .returned (.bool true) ∧ Below w.heap.size w w' := by
  obtain ⟨la, lc, rfl⟩ := hl.form
  have Hg := hide (great_any _ l w hl)
  have Hl := hide hl
  clear hl
  cases hg : greatO l with
  | true =>
    rw [hg] at Hg
    clear hg
    go_enter Try.func8, Try.ntmps8
    go_wp2_with fail
    (with_reducible refine Hg.out.mono ?_)
    rintro e V ⟨rfl, rfl⟩
    go_wp2_with (go_at_call 25; refine (known29_walk _).mono ?_; rintro e w' ⟨rfl, hk⟩)
    go_ret
    exact ⟨rfl, hk⟩
  | false =>
    rw [hg] at Hg
    obtain ⟨hl60, hn20⟩ := greatO_false hg
    have Hn20 := hide hn20
    have Hnew := hide (new_any w)
    clear hg hn20
    go_enter Try.func8, Try.ntmps8
    go_wp2_with fail
    (with_reducible refine Hg.out.mono ?_)
    rintro e V ⟨rfl, rfl⟩
    clear Hg
    go_wp2_with fail
    (with_reducible refine Hnew.out.mono ?_)
    rintro e V0 ⟨b, m, rfl, hB, hb0, hbb, hmm⟩
    have hbx : Below V0.heap.size V0 (V0.alloc (Obj.cells #[.slice none 0 0] 70)) := ((Only.refl [] V0).alloc _).below
    have hz0 := hb0.size
    have HSt : Hid (PSt w (V0.alloc (Obj.cells #[.slice none 0 0] 70)) b m [] V0.heap.size (.slice none 0 0) [] 0) := hide ⟨⟨hB.below hbx, ⟨heap_alloc0 V0 _, hz0, World.ownsRow_nil _ _ _ _, by simp, by simp, by simp⟩, hbb, hmm, hb0.trans (hbx.mono hz0), by intro p hp; cases hp⟩, ⟨PRel.nil, by simp, by simp [getD, getS]⟩⟩
    clear hB hb0 hbb hmm hbx hz0 Hnew
    go_wp2_with fail
    go_loopw [5, 6, 26] (fun u5 u6 vi wr => ∃ (k b m : Nat) (M : List Sp) (r : Nat) (v : Value) (L : List Sp), k ≤ l.length ∧ vi = .int .i64 k ∧ u5 = .pointer (some ⟨b, 0, none⟩) ∧ u6 = .pointer (some ⟨r, 0, none⟩) ∧ Hid (PSt w wr b m M r v L k)) (fun _ _ vi _ => l.length - (intOf vi).toNat)
    case atStart => exact ⟨0, b, m, [], V0.heap.size, _, [], Nat.zero_le _, rfl, rfl, rfl, HSt.out⟩
    case round =>
      clear HSt
      obtain ⟨k, b, m, M, r, v, L, hk, rfl, rfl, rfl, hq⟩ := hrel
      obtain ⟨wp, rfl⟩ : ∃ wp : World, wp = wr := ⟨_, rfl⟩
      by_cases hlk : k < l.length
      · have hP := hq.out
        obtain ⟨ob, off, cap, e, hat⟩ := (Hl.out.below hP.two.below).at hlk
        injection e with e1 e2 e3
        subst e1 e3
        clear e2
        have hn := Hn20.out _ (List.getElem_mem hlk)
        obtain ⟨D, hD⟩ : ∃ D, l[k] = D := ⟨_, rfl⟩
        rw [hD] at hat hn
        obtain ⟨c0, c1, c2, c3, hjo, hwf⟩ := hat
        obtain ⟨WO, hWO⟩ : ∃ WO, wp.alloc (Obj.cells #[.int .i64 D.k, .int .i64 D.id, .int .i64 D.j.r, .slice D.j.a D.j.n D.j.c] 55) = WO := ⟨_, rfl⟩
        have hbO : Below wp.heap.size wp WO := by rw [← hWO]; exact ((Only.refl [] wp).alloc _).below
        have hbx := heap_alloc0 wp (Obj.cells #[.int .i64 D.k, .int .i64 D.id, .int .i64 D.j.r, .slice D.j.a D.j.n D.j.c] 55)
        rw [hWO] at hbx
        have hstep := step29_any w WO b m M r v L k D (hP.to hbO) (by omega) (hjo.below hbO) hn hwf
        have Hstep := hide hstep
        have HWO := hide hWO
        have Hbx := hide hbx
        have i1 : (k : Int) < (l.length : Int) := by omega
        have i2 : (0 : Int) ≤ (k : Int) := by omega
        clear hq hP hD hn hjo hwf hWO hbO hbx hstep
        go_upto_region 9 with fail
        rw [HWO.out]
        have o0 : WO.cell? ⟨wp.heap.size, 0, none⟩ = some (.int .i64 D.k) := by simp [World.cell?, Hbx.out]
        have o1 : WO.cell? ⟨wp.heap.size, 1, none⟩ = some (.int .i64 D.id) := by simp [World.cell?, Hbx.out]
        have o2 : WO.cell? ⟨wp.heap.size, 2, none⟩ = some (.int .i64 D.j.r) := by simp [World.cell?, Hbx.out]
        have o3 : WO.cell? ⟨wp.heap.size, 3, none⟩ = some (.slice D.j.a D.j.n D.j.c) := by simp [World.cell?, Hbx.out]
        clear c0 c1 c2 c3
        go_wp2_with fail
        (with_reducible refine Hstep.out.mono ?_)
        rintro e V ⟨b', m', M', r', v', L', rfl, hP⟩
        have hMl : M'.length ≤ k + 1 := hP.pb.mlen
        have hmj := hP.pb.mjl id
        have HP := hide hP
        have Hfa := hide (facts_any b' m' M' V hP.two.bk)
        clear hP Hstep o0 o1 o2 o3
        go_wp2_with fail
        (with_reducible refine Hfa.out.mono ?_)
        rintro e V2 ⟨fv, rfl, hfr, hb2⟩
        have hidl : (idsS M').length ≤ 1000000 := by
          have := (rise_perm (M'.map Sp.id)).length_eq
          unfold idsS
          rw [this, List.length_map]
          omega
        obtain ⟨fa, fc, rfl⟩ := row_form hfr
        have HF2 := hide hfr
        have Hb2 := hide hb2
        have Hlo := hide (lost_any b' m' M' V2 (HP.out.two.bk.below hb2))
        clear hfr hb2 Hfa
        go_wp2_with fail
        (with_reducible refine Hlo.out.mono ?_)
        rintro e V3 ⟨lv, ll, rfl, hln, hlP, hb3⟩
        have Hln := hide hln
        have HlP := hide hlP
        have Hb23 := hide hb3
        have Hb3 := hide (Hb2.out.trans (hb3.mono Hb2.out.size))
        have Hof := hide (of_any b' m' M' id V3 (HP.out.two.bk.below Hb3.out) (by omega))
        clear hln hlP hb3 Hlo
        go_wp2_with fail
        (with_reducible refine Hof.out.mono ?_)
        rintro e V4 ⟨ov, oL, rfl, hof, hop, hos, hb4⟩
        have holn : oL.length ≤ 1000 := by
          have h1 := hop.length_eq
          rw [List.length_map, List.length_map] at h1
          omega
        have hoc := HP.out.pb.rel.of id hop hos
        obtain ⟨oa, oc, rfl⟩ := hof.form
        have Hof4 := hide hof
        have Hoc := hide hoc
        have Hb34 := hide hb4
        have Hb4 := hide (Hb3.out.trans (hb4.mono Hb3.out.size))
        have HP4 := hide (HP.out.to Hb4.out)
        have HF4 : Hid (NIs V4 (.slice fa (idsS M').length fc) (idsS M')) := hide ((NIs.of_row hidl HF2.out).below (Hb23.out.trans (hb4.mono Hb23.out.size)))
        have Hl4 := hide (Hln.out.below hb4)
        have Hrf := hide (rfacts_any w.heap.size r' v' L' V4 HP4.out.two.rf)
        clear hof hop hos hoc hb4 Hof Hln
        go_wp2_with fail
        (with_reducible refine Hrf.out.mono ?_)
        rintro e V5 ⟨gv, rfl, hgr, hb5⟩
        have Hb5 := hide hb5
        have hll : L'.length ≤ 1000 := by have := HP.out.pb.len; omega
        have hr1 := rows_same (HF4.out.below hb5) (NIs.of_row (l := L'.map Sp.id) (by rw [List.length_map]; omega) (by rw [List.length_map]; exact hgr)) HP.out.pb.rel.idsS
        have Hr1 := hide hr1
        clear hgr hb5 hr1 Hrf
        go_wp2_with fail
        (with_reducible refine Hr1.out.mono ?_)
        rintro e V6 ⟨rfl, hb6⟩
        have Hb6 := hide (Hb5.out.trans (hb6.mono Hb5.out.size))
        have Hrl := hide (rlost_any w.heap.size r' v' L' V6 (HP4.out.two.rf.below Hb6.out))
        clear hb6 Hr1 Hb5
        go_wp2_with fail
        (with_reducible refine Hrl.out.mono ?_)
        rintro e V7 ⟨qv, ql, rfl, hqn, hqP, hb7⟩
        have Hb7 := hide (Hb6.out.trans (hb7.mono Hb6.out.size))
        have Hr2 := hide (rows_same (Hl4.out.below Hb7.out) hqn (HP.out.pb.rel.lost HlP.out hqP))
        clear hqn hqP hb7 Hrl Hb6
        go_wp2_with fail
        (with_reducible refine Hr2.out.mono ?_)
        rintro e V8 ⟨rfl, hb8⟩
        have Hb8 := hide (Hb7.out.trans (hb8.mono Hb7.out.size))
        have hip := isPlain_any b' m' M' id V8 (HP4.out.two.bk.below Hb8.out)
        have hrp := risPlain_any w.heap.size r' v' L' id V8 (HP4.out.two.rf.below Hb8.out)
        rw [HP.out.pb.rel.plain id] at hip
        obtain ⟨pl, hpl⟩ : ∃ pl, (getD L' id).plain = pl := ⟨_, rfl⟩
        rw [hpl] at hip hrp
        have Hip := hide hip
        have Hrp := hide hrp
        have hne : (pl != pl) = false := by simp
        have hrf8 := rof_any w.heap.size r' v' L' id V8 (HP4.out.two.rf.below Hb8.out)
        have Hro := hide hrf8
        clear hb8 hip hrp hpl hrf8 Hr2 Hb7
        go_wp2_with fail
        (with_reducible refine Hip.out.mono ?_)
        rintro e X ⟨rfl, rfl⟩
        go_wp2_with fail
        (with_reducible refine Hrp.out.mono ?_)
        rintro e X ⟨rfl, rfl⟩
        go_wp2_with fail
        (with_reducible refine Hro.out.mono ?_)
        rintro e X ⟨⟨jv, rfl, hjv⟩, rfl⟩
        have hsa := sameAll29_any (.slice oa oL.length oc) jv oL (getD L' id).js V8 ((Hof4.out.below Hb8.out).js (by omega)) hjv
        rw [decide_eq_true Hoc.out] at hsa
        have Hsa := hide hsa
        clear hjv hsa Hip Hrp Hro
        go_wp2_with fail
        (with_reducible refine Hsa.out.mono ?_)
        rintro e V9 ⟨rfl, hb9⟩
        have Hb9 := hide (Hb8.out.trans (hb9.mono Hb8.out.size))
        have HbV9 := hide (Hb4.out.trans (Hb9.out.mono Hb4.out.size))
        have HF9 := hide (owns_below (owns_below HF2.out (Hb23.out.trans (Hb34.out.mono Hb23.out.size))) Hb9.out)
        have HO9 := hide ((Hof4.out.below Hb9.out).osp (by omega))
        have hz2 : V.heap.size ≤ V2.heap.size := Hb2.out.size
        have hz3 : V2.heap.size ≤ V3.heap.size := Hb23.out.size
        have hFlt : ∀ g, Value.ownBlock (.slice fa (idsS M').length fc) = some g → g < V3.heap.size := fun g hg => Nat.lt_of_lt_of_le (HF2.out.lt g hg).2 hz3
        have HFlt := hide hFlt
        clear hb9 Hsa Hb8 hFlt
        obtain ⟨fn, hfn⟩ : ∃ fn, (idsS M').length = fn := ⟨_, rfl⟩
        rw [hfn] at hidl HFlt
        simp only [hfn]
        have HF10 : Hid (V9.ownsRow V.heap.size 3 1 (.slice fa fn fc) fn ((idsS M').map (.int .i64))) := hide (by have := HF9.out; rwa [hfn] at this)
        clear hfn HF9 HF2 HF4 Hl4 HlP Hof4 Hoc HP4
        go_wp2_with fail
        go_loopw [13, 78] (fun _ vi wr => ∃ (i : Nat) (t' : List Int), i ≤ fn ∧ vi = .int .i64 i ∧ Hid (Below V.heap.size V wr ∧ wr.ownsRow V.heap.size 3 1 (.slice fa fn fc) fn (t'.map (.int .i64)) ∧ OSp V3.heap.size wr (.slice oa oL.length oc) oL)) (fun _ vi _ => fn - (intOf vi).toNat)
        case atStart => exact ⟨0, idsS M', Nat.zero_le _, rfl, HbV9.out, HF10.out, HO9.out⟩
        case round =>
          obtain ⟨i, t', hi, rfl, hq⟩ := hrel
          obtain ⟨hb, hr, ho⟩ := hq.out
          by_cases hil : i < fn
          · obtain ⟨g, z, rfl, hg, e0, ef⟩ := row_at hr hil
            have hg3 := HFlt.out g rfl
            obtain ⟨t2, hr2⟩ := row_poke (g := g) (k := i) (z := -1) hr
            have HF := hide (And.intro (hb.setCell (p := ⟨g, i, none⟩) hg (.int .i64 (-1))) (And.intro hr2 (ho.low ((Only.refl [g] wr).setCell (p := ⟨g, i, none⟩) (.inl (by simp)) (.int .i64 (-1))) (fun q hq => by simp only [List.mem_singleton] at hq; omega))))
            clear hq hb hr ho hr2 hg hg3
            go_wp2
            go_roundw
            case rel => exact ⟨i + 1, t2, by omega, by go_num, HF.out⟩
            case measure => simp [intOf]; omega
          · obtain rfl : i = fn := by omega
            have HS3 := hide (And.intro hb ho)
            clear hq hb hr ho
            go_wp2_with fail
            go_loopw [14, 87] (fun _ vi wr => ∃ i : Nat, i ≤ oL.length ∧ vi = .int .i64 i ∧ Hid (Below V.heap.size V wr ∧ OSp V3.heap.size wr (.slice oa oL.length oc) oL)) (fun _ vi _ => oL.length - (intOf vi).toNat)
            case atStart => exact ⟨0, Nat.zero_le _, rfl, HS3.out⟩
            case round =>
              obtain ⟨j, hj, rfl, hq⟩ := hrel
              obtain ⟨hb, ho⟩ := hq.out
              by_cases hjl : j < oL.length
              · obtain ⟨g, c, xa, xc, e, hx, c1⟩ := ho.at_ j hjl
                injection e with e1 e2 e3
                subst e1 e3
                clear e2
                have hmem := List.getElem_mem hjl
                obtain ⟨Z, hz⟩ : ∃ Z, oL[j] = Z := ⟨_, rfl⟩
                rw [hz] at hx c1 hmem
                obtain ⟨tn, htn⟩ : ∃ tn, Z.tup.length = tn := ⟨_, rfl⟩
                rw [htn] at hx c1
                have Htn := hide htn
                have Hx := hide hx
                have Hz := hide hz
                have Hmem := hide hmem
                have HB := hide hb
                have HO := hide ho
                have htl : tn ≤ 1000000 := by rw [← htn]; exact ho.len Z hmem
                obtain ⟨wo, rfl⟩ : ∃ wo : World, wo = wr := ⟨_, rfl⟩
                clear hq hb ho hz hx htn hmem
                go_wp2_with fail
                go_loopw [15, 96] (fun _ vi wr => ∃ q : Nat, q ≤ tn ∧ vi = .int .i64 q ∧ Hid (Below V.heap.size V wr ∧ OSp V3.heap.size wr (.slice (some ⟨g, 0, none⟩) oL.length oc) oL)) (fun _ vi _ => tn - (intOf vi).toNat)
                case atStart => exact ⟨0, Nat.zero_le _, rfl, HB.out, HO.out⟩
                case round =>
                  obtain ⟨q, hq1, rfl, hq⟩ := hrel
                  obtain ⟨hb, ho⟩ := hq.out
                  by_cases hql : q < tn
                  · clear c1
                    obtain ⟨g', c', xa', xc', e, hx', c1⟩ := ho.at_ j hjl
                    injection e with e1 e2 e3
                    injection e1 with e1
                    injection e1 with e1
                    subst e1 e3
                    clear e2
                    rw [Hz.out, Hx.out] at hx'
                    rw [Hz.out, Htn.out] at c1
                    rw [Htn.out] at hx'
                    injection hx' with f1 f2 f3
                    subst f1 f3
                    clear f2
                    obtain ⟨t, ht⟩ := ho.tups Z Hmem.out
                    rw [Hx.out, Htn.out] at ht
                    obtain ⟨g2, z, rfl, hg2, e0, ef⟩ := row_at ht hql
                    have HF := hide (And.intro (hb.setCell (p := ⟨g2, q, none⟩) (by show V.heap.size ≤ g2; omega) (.int .i64 (-1))) (ho.poke Hmem.out (g := g2) (k := q) (by rw [Hx.out]; rfl) (-1)))
                    clear hq hb ho ht hg2
                    go_wp2
                    go_roundw
                    case rel => exact ⟨q + 1, by omega, by go_num, HF.out⟩
                    case measure => simp [intOf]; omega
                  · obtain rfl : q = tn := by omega
                    have HF := hide (And.intro hb ho)
                    clear hq hb ho
                    go_wp2
                    go_roundw
                    case rel => exact ⟨j + 1, by omega, by go_num, HF.out⟩
                    case measure => simp [intOf]; omega
              · obtain rfl : j = oL.length := by omega
                have HF := hide (HP.out.to hb)
                clear hq hb ho
                go_wp2
                go_roundw
                case rel => exact ⟨k + 1, b', m', M', r', v', L', by omega, by go_num, rfl, rfl, HF.out⟩
                case measure => simp [intOf]; omega
      · obtain rfl : k = l.length := by omega
        have hbw := hq.out.two.below
        have Hbw := hide hbw
        clear hq hbw
        go_wp2_with (go_at_call 25; refine (known29_walk _).mono ?_; rintro e w' ⟨rfl, hk⟩)
        go_ret
        exact ⟨rfl, Hbw.out.trans (hk.mono Hbw.out.size)⟩
end Go.Proofs.Ytmcajoccfbebiaa
