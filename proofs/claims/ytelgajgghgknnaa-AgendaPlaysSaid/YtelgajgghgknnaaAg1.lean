/- The contracts of an agenda's lay and drop. -/
import Derived.Test.YtelgajgghgknnaaDel
import Derived.Test.YtelgajgghgknnaaBs
namespace Go.Proofs.Ytelgajgghgknnaa
open Go Go.RowKit Go.MapKept Go.Sort

/-- Only the agenda's own block and its row may have turned. -/
def AgOnly (b : Nat) (v : Value) (w w' : World) : Prop := Only (b :: v.ownBlock.toList) w w'

theorem owns_not {w : World} {B n s k : Nat} {t t' : TypeId} {v : Value} {xs : List Value} {cs : Array Value} (h : w.ownsRow B t s v n xs) (hk : w.heap[k]? = some (.cells cs t' (0, 0))) (ht : t ≠ t') : v.ownBlock ≠ some k := by
  intro e
  rcases h.2 with ⟨rfl, _⟩ | ⟨g, cap, cur, rfl, _, hg, _⟩
  · cases e
  · simp only [Value.ownBlock, Option.some.injEq] at e
    subst e
    rw [hg] at hk
    injection hk with q
    injection q with q1 q2
    exact ht q2

theorem EnsIs.only {B : Nat} {w w' : World} {v : Value} {l : List En} {S : List Nat} (h : EnsIs B w v l) (ho : Only S w w') (hv : ∀ k ∈ S, v.ownBlock ≠ some k) (ht : ∀ e ∈ l, ∀ k ∈ S, e.ac.x.ownBlock ≠ some k) : EnsIs B w' v l :=
  ⟨h.len, owns_only h.own ho (fun k hk hm => hv k hm hk), fun e he => ⟨(h.tups e he).1, owns_only (h.tups e he).2 ho (fun k hk hm => ht e he k hm hk)⟩⟩

theorem ag_set {B b : Nat} {w : World} {s : Int} {v v' : Value} {l : List En} (hb : w.heap[b]? = some (.cells #[.int .u8 s, v] 57 (0, 0))) (hB : B ≤ b) (h : EnsIs B w v' l) : AgIs B (w.setCell ⟨b, 1, none⟩ v') b s v' l :=
  ⟨by rw [setCell_heap hb]; rfl, hB, h.only ((Only.refl [b] w).setCell (.inl (by simp)) v') (fun k hk => by simp only [List.mem_singleton] at hk; subst hk; exact owns_not h.own hb (by decide)) (fun e he k hk => by simp only [List.mem_singleton] at hk; subst hk; exact owns_not (h.tups e he).2 hb (by decide))⟩

theorem idx_cases (l : List En) (x : Ac) : (idx l x = -1 ∧ l.findIdx? (fun e => e.ac.same x) = none) ∨ ∃ i, i < l.length ∧ idx l x = i ∧ l.findIdx? (fun e => e.ac.same x) = some i := by
  unfold idx
  cases h : l.findIdx? (fun e => e.ac.same x) with
  | none => exact .inl ⟨rfl, rfl⟩
  | some i => exact .inr ⟨i, (List.findIdx?_eq_some_iff_getElem.1 h).1, rfl, rfl⟩

/-- The entries without the first one of x. -/
def dropped (l : List En) (x : Ac) : List En := match l.findIdx? (fun e => e.ac.same x) with | some i => l.eraseIdx i | none => l

set_option maxHeartbeats 2000000 in
theorem drop_any (B b : Nat) (s : Int) (v : Value) (l : List En) (x : Ac) (w : World) (h : AgIs B w b s v l) (hx : NIs w x.x x.tup) :
    Calls Try.prog 31 #[.pointer (some ⟨b, 0, none⟩), x.val] w fun r w' => r = .returned (.tuple #[]) ∧ ∃ v', AgIs B w' b s v' (dropped l x) ∧ AgOnly b v w w' ∧ Stays v v' w := by
  have hlt := lt_of_heap h.blk
  obtain ⟨rx, lx, sx, vx⟩ := x
  simp only at hx
  obtain ⟨xa, xc, rfl⟩ := hx.form
  have hb1 : Below w.heap.size w (w.alloc (Obj.cells #[.int .i64 rx, .slice xa lx.length xc, .int .i64 sx] 27)) := ((Only.refl [] w).alloc _).below
  have hf := find_any B b s v l ⟨rx, lx, sx, .slice xa lx.length xc⟩ _ (h.below hb1) (hx.below hb1)
  obtain ⟨va, vc, rfl, _⟩ := h.ens.form
  unfold Ac.val at hf ⊢
  have Hf := hide hf
  have HB := hide hb1
  have H := hide h
  clear hf hb1 hx
  have hic := idx_cases l ⟨rx, lx, sx, .slice xa lx.length xc⟩
  unfold dropped
  rcases hic with ⟨e1, e2⟩ | ⟨i, hi, e1, e2⟩
  · rw [e1] at Hf
    rw [e2]
    clear e1 e2 h
    go_enter Try.func31, Try.ntmps31
    go_wp2_with fail
    refine Hf.out.mono ?_
    rintro r V ⟨rfl, hb⟩
    have HF := hide (HB.out.trans (hb.mono (by simp)))
    clear hb
    go_wp2
    go_end0
    exact ⟨rfl, _, H.out.below HF.out, Only.of_below HF.out _, fun k hk => .inl hk⟩
  · rw [e1] at Hf
    rw [e2]
    clear e1 e2
    go_enter Try.func31, Try.ntmps31
    go_wp2_with fail
    refine Hf.out.mono ?_
    rintro r V ⟨rfl, hb⟩
    have hF := HB.out.trans (hb.mono (by simp))
    have HF := hide hF
    have hV := H.out.below hF
    obtain ⟨d0, d1, f0, f1⟩ := cells2e hV.blk
    have Hd := hide (delete_any B _ l i V hV.ens hi)
    have HV := hide hV
    have hltV : b < V.heap.size := Nat.lt_of_lt_of_le hlt hF.size
    have hl64 := hV.ens.len
    clear hb hF hV h Hf
    go_wp2_with fail
    refine Hd.out.mono ?_
    rintro r V2 ⟨v', rfl, h1, h2, h3⟩
    obtain ⟨va', vc', rfl, _⟩ := h1.form
    have hblk : V2.heap[b]? = some (.cells #[.int .u8 s, .slice va l.length vc] 57 (0, 0)) := (h2.block b hltV (fun e => owns_not HV.out.ens.own HV.out.blk (by decide) e.symm)).trans HV.out.blk
    have hset := ag_set hblk H.out.hB h1
    have honly : AgOnly b (.slice va l.length vc) w (V2.setCell ⟨b, 1, none⟩ (.slice va' (l.eraseIdx i).length vc')) := ((Only.of_below HF.out _).trans (Only.of_grown h2 _ (fun k hk => by simp [hk]))).setCell (.inl (by simp)) _
    have hst : Stays (.slice va l.length vc) (.slice va' (l.eraseIdx i).length vc') w := fun k hk => (h3 k hk).imp id (fun q => Nat.le_trans HF.out.size q)
    obtain ⟨e0, e1, g0, g1⟩ := cells2e hblk
    have Hset := hide hset
    have Honly := hide honly
    have Hst := hide hst
    clear h1 h2 h3 hblk hset honly hst d0 d1 f0 f1
    go_wp2
    go_end0
    exact ⟨rfl, _, Hset.out, Honly.out, Hst.out⟩

/-- The entries with x laid among them, if it is not there. -/
def LaidAs (l : List En) (x : Ac) (l' : List En) : Prop := (l' = l ∧ (l.any fun e => e.ac.same x) = true) ∨ ((l.any fun e => e.ac.same x) = false ∧ ∃ i y, i ≤ l.length ∧ y.co = x.co ∧ l' = laid l i ⟨y, false⟩)

/-- What is new among the entries lies in memory that is new. -/
def NewTups (n : Nat) (l l' : List En) : Prop := ∀ e ∈ l', (∃ f ∈ l, f.ac.x = e.ac.x) ∨ ∀ k, e.ac.x.ownBlock = some k → n ≤ k
theorem NewTups.refl (n : Nat) (l : List En) : NewTups n l l := fun e he => .inl ⟨e, he, rfl⟩
theorem NewTups.laid {n : Nat} {l : List En} {i : Nat} {y : En} (h : ∀ k, y.ac.x.ownBlock = some k → n ≤ k) : NewTups n l (laid l i y) := fun e he => by
  unfold Go.Proofs.Ytelgajgghgknnaa.laid at he
  rcases List.mem_append.1 he with q | q
  · rcases List.mem_append.1 q with q | q
    · exact .inl ⟨e, List.mem_of_mem_take q, rfl⟩
    · simp only [List.mem_singleton] at q
      subst q
      exact .inr h
  · exact .inl ⟨e, List.mem_of_mem_drop q, rfl⟩
theorem NewTups.trans {n m : Nat} {a b c : List En} (h : NewTups n a b) (k : NewTups m b c) (hm : n ≤ m) : NewTups n a c := fun e he => by
  rcases k e he with ⟨f, hf, e1⟩ | q
  · rcases h f hf with ⟨g, hg, e2⟩ | r
    · exact .inl ⟨g, hg, e2.trans e1⟩
    · exact .inr (by rw [← e1]; exact r)
  · exact .inr fun i hi => Nat.le_trans hm (q i hi)

theorem any_idx {l : List En} {x : Ac} : (l.findIdx? (fun e => e.ac.same x) = none → (l.any fun e => e.ac.same x) = false) ∧ ∀ i, l.findIdx? (fun e => e.ac.same x) = some i → (l.any fun e => e.ac.same x) = true := by
  constructor
  · intro h
    rw [List.findIdx?_eq_none_iff] at h
    rw [List.any_eq_false]
    exact fun e he => by simpa using h e he
  · intro i h
    obtain ⟨h1, h2, _⟩ := List.findIdx?_eq_some_iff_getElem.1 h
    exact List.any_eq_true.2 ⟨_, List.getElem_mem h1, h2⟩

theorem lay_blk {B b : Nat} {w V4 V4a W5 V6 : World} {s : Int} {v : Value} {l : List En} (hW : V4a = W5) (hz : W5.heap.size = V4.heap.size + 1) (hb : b < V4.heap.size) (h2 : V4a.grownBy V6 v.ownBlock) (H : AgIs B w b s v l) (hX : W5.heap[b]? = some (.cells #[.int .u8 s, v] 57 (0, 0))) : V6.heap[b]? = some (.cells #[.int .u8 s, v] 57 (0, 0)) := by
  subst hW
  exact (h2.block b (by omega) (fun e => by have := owns_not H.ens.own H.blk (by decide); exact this e.symm)).trans hX

theorem lay_fin {B b : Nat} {w V4a W5 V6 : World} {s : Int} {v v' : Value} {l' : List En} (hW : V4a = W5) (hB5 : Below w.heap.size w W5) (h1 : EnsIs B V6 v' l') (h2 : V4a.grownBy V6 v.ownBlock) (h3 : Stays v v' V4a) (hblk : V6.heap[b]? = some (.cells #[.int .u8 s, v] 57 (0, 0))) (hB : B ≤ b) :
    AgIs B (V6.setCell ⟨b, 1, none⟩ v') b s v' l' ∧ AgOnly b v w (V6.setCell ⟨b, 1, none⟩ v') ∧ Stays v v' w := by
  subst hW
  exact ⟨ag_set hblk hB h1, ((Only.of_below hB5 _).trans (Only.of_grown h2 _ (fun k hk => by simp [hk]))).setCell (.inl (by simp)) _, fun k hk => (h3 k hk).imp id (fun q => Nat.le_trans hB5.size q)⟩

theorem lay_ps {B b : Nat} {w V4 V4a W5 V6 : World} {s : Int} {v u : Value} {l : List En} (hW : V4a = W5) (hz : W5.heap.size = V4.heap.size + 1) (hb : w.heap.size < V4.heap.size) (h2 : V4a.grownBy V6 v.ownBlock) (H : AgIs B w b s v l) (hX : W5.cell? ⟨w.heap.size, 0, none⟩ = some u) : V6.cell? ⟨w.heap.size, 0, none⟩ = some u := by
  subst hW
  exact (World.cell?_of_block (w := V4a) (h2.block w.heap.size (by omega) (fun e => by have := (H.ens.own.lt _ e.symm).2; omega))).trans hX

set_option maxRecDepth 100000 in
set_option maxHeartbeats 4000000 in
theorem lay_new (B b : Nat) (s : Int) (v : Value) (l : List En) (x : Ac) (w : World) (h : AgIs B w b s v l) (hl : l.length < 100000) (hB : B ≤ w.heap.size) (hx : NIs w x.x x.tup) :
    Calls Try.prog 32 #[.pointer (some ⟨b, 0, none⟩), x.val] w fun r w' => r = .returned (.tuple #[]) ∧ ∃ v' l', AgIs B w' b s v' l' ∧ LaidAs l x l' ∧ AgOnly b v w w' ∧ Stays v v' w ∧ NewTups w.heap.size l l' := by
  have hlt := lt_of_heap h.blk
  obtain ⟨rx, lx, sx, vx⟩ := x
  simp only at hx
  obtain ⟨xa, xc, rfl⟩ := hx.form
  obtain ⟨W, hW, h1, h2, hsz, hbW⟩ := heap2 w (Obj.cells #[.pointer (some ⟨b, 0, none⟩)] 70) (Obj.cells #[.int .i64 rx, .slice xa lx.length xc, .int .i64 sx] 27)
  have hf := find_any B b s v l ⟨rx, lx, sx, .slice xa lx.length xc⟩ W (h.below hbW) (hx.below hbW)
  have hp0 : W.cell? ⟨w.heap.size, 0, none⟩ = some (.pointer (some ⟨b, 0, none⟩)) := cellAt (i := 0) h1 rfl
  have hq0 : W.cell? ⟨w.heap.size + 1, 0, none⟩ = some (.int .i64 rx) := cellAt (i := 0) h2 rfl
  have hq1 : W.cell? ⟨w.heap.size + 1, 1, none⟩ = some (.slice xa lx.length xc) := cellAt (i := 1) h2 rfl
  have hq2 : W.cell? ⟨w.heap.size + 1, 2, none⟩ = some (.int .i64 sx) := cellAt (i := 2) h2 rfl
  have hAW := h.below hbW
  have hxW := hx.below hbW
  obtain ⟨va, vc, rfl, _⟩ := h.ens.form
  obtain ⟨hd0, hd1, _, _⟩ := cells2e hAW.blk
  have z1 : w.heap.size < W.heap.size := by omega
  have z2 : w.heap.size + 1 < W.heap.size := by omega
  have z3 : b < W.heap.size := by omega
  have Cells : Hid (∀ V, Below W.heap.size W V → V.cell? ⟨w.heap.size, 0, none⟩ = some (.pointer (some ⟨b, 0, none⟩)) ∧ V.cell? ⟨b, 0, none⟩ = some (.int .u8 s) ∧ V.cell? ⟨b, 1, none⟩ = some (.slice va l.length vc) ∧ V.cell? ⟨w.heap.size + 1, 0, none⟩ = some (.int .i64 rx) ∧ V.cell? ⟨w.heap.size + 1, 1, none⟩ = some (.slice xa lx.length xc) ∧ V.cell? ⟨w.heap.size + 1, 2, none⟩ = some (.int .i64 sx)) := fun V hV =>
    ⟨(hV.cell (p := ⟨w.heap.size, 0, none⟩) z1).trans hp0, (hV.cell (p := ⟨b, 0, none⟩) z3).trans hd0, (hV.cell (p := ⟨b, 1, none⟩) z3).trans hd1, (hV.cell (p := ⟨w.heap.size + 1, 0, none⟩) z2).trans hq0, (hV.cell (p := ⟨w.heap.size + 1, 1, none⟩) z2).trans hq1, (hV.cell (p := ⟨w.heap.size + 1, 2, none⟩) z2).trans hq2⟩
  unfold Ac.val at hf ⊢
  have Hf := hide hf
  have HW := hide hW
  have BW := hide hbW
  have H := hide h
  have HAW := hide hAW
  have HX := hide hxW
  have HP2 := hide h2
  have hllen := h.ens.len
  have hxlen := hx.1
  clear hf hW hbW h hAW hxW hx h1 h2 hp0 hq0 hq1 hq2 hd0 hd1
  have hic := idx_cases l ⟨rx, lx, sx, .slice xa lx.length xc⟩
  obtain ⟨y0, y1, y2, y3, y4, y5⟩ := Cells.out W (Below.refl _ _)
  rcases hic with ⟨e1, e2⟩ | ⟨i, hi, e1, e2⟩
  · have Hno := hide (any_idx.1 e2)
    rw [e1] at Hf
    clear e1 e2
    go_enter Try.func32, Try.ntmps32
    go_upto_region 1 with fail
    rw [HW.out]
    go_wp2_with fail
    refine Hf.out.mono ?_
    rintro r V ⟨rfl, hb⟩
    clear y0 y1 y2 y3 y4 y5
    obtain ⟨y0, y1, y2, y3, y4, y5⟩ := Cells.out V hb
    have hbd : Below W.heap.size W V.drew := ⟨hb.os, hb.tape, hb.output, hb.size, hb.block⟩
    have hbs := bsearch_any B w.heap.size b s _ l ⟨rx, lx, sx, .slice xa lx.length xc⟩ V.drew (HAW.out.ens.below hbd) ((Cells.out _ hbd).1) ((Cells.out _ hbd).2.1) (HX.out.below hbd)
    unfold Ac.val at hbs
    have Hbs := hide hbs
    have HbV := hide hb
    have HbVd := hide hbd
    clear hbs hb hbd Hf
    go_wp2_with fail
    go_region_held3 (fun V => V.cell? ⟨w.heap.size, 0, none⟩ = some (.pointer (some ⟨b, 0, none⟩)) ∧ V.cell? ⟨b, 0, none⟩ = some (.int .u8 s) ∧ V.cell? ⟨b, 1, none⟩ = some (.slice va l.length vc) ∧ V.cell? ⟨w.heap.size + 1, 0, none⟩ = some (.int .i64 rx) ∧ V.cell? ⟨w.heap.size + 1, 1, none⟩ = some (.slice xa lx.length xc) ∧ V.cell? ⟨w.heap.size + 1, 2, none⟩ = some (.int .i64 sx)) (go_keep)
      ((go_at_call 44; have hqq := Hbs.out; with_reducible refine Calls.mono hqq ?_; clear hqq; rintro r V2 ⟨i, p, rfl, hil, hb2⟩; have HbV2 := hide (HbVd.out.trans (hb2.mono HbVd.out.size)); obtain ⟨k0, k1, k2, k3, k4, k5⟩ := Cells.out V2 HbV2.out; clear hb2))
    have Hncl := hide (nclone _ lx V2 (HX.out.below HbV2.out))
    clear y0 y1 y2 y3 y4 y5 Hbs HbVd HbV
    go_wp2_with fail
    refine Hncl.out.mono ?_
    rintro r V3 ⟨nv, rfl, hrow, hb3⟩
    obtain ⟨na, nc, rfl⟩ := row_form hrow
    have hB3 := HbV2.out.trans (hb3.mono HbV2.out.size)
    clear k0 k1 k2 k3 k4 k5
    obtain ⟨k0, k1, k2, _⟩ := Cells.out V3 hB3
    have Hnt : Hid (∀ k, Value.ownBlock (.slice na lx.length nc) = some k → w.heap.size ≤ k) := hide (fun k hk => by have := (hrow.lt k hk).1; have := HbV2.out.size; omega)
    have hpx := (hB3.block _ z2).trans HP2.out
    obtain ⟨m0, m1, m2, g0, g1, g2⟩ := cells3a hpx
    obtain ⟨V4, hV4⟩ : ∃ V4, V3.setCell ⟨w.heap.size + 1, 1, none⟩ (.slice na lx.length nc) = V4 := ⟨_, rfl⟩
    have o4 : Only [w.heap.size + 1] V3 V4 := by rw [← hV4]; exact (Only.refl _ V3).setCell (.inl (by simp)) _
    have hpx4 : V4.heap[w.heap.size + 1]? = some (.cells #[.int .i64 rx, .slice na lx.length nc, .int .i64 sx] 27 (0, 0)) := by rw [← hV4, setCell_heap hpx]; rfl
    have hB4 : Below w.heap.size w V4 := by rw [← hV4]; exact (BW.out.trans (hB3.mono (by omega))).setCell (by simp) _
    have hsz3 : W.heap.size ≤ V3.heap.size := hB3.size
    have hsz4 : V4.heap.size = V3.heap.size := by rw [← hV4]; simp [World.setCell]
    have c0 := (o4.cell (p := ⟨w.heap.size, 0, none⟩) (by simp only; omega) (by simp)).trans k0
    have c1 := (o4.cell (p := ⟨b, 0, none⟩) (by simp only; omega) (by simp; omega)).trans k1
    have c2 := (o4.cell (p := ⟨b, 1, none⟩) (by simp only; omega) (by simp; omega)).trans k2
    obtain ⟨c3, c4, c5, _⟩ := cells3a hpx4
    have hrow4 : V4.ownsRow V2.heap.size 3 1 (.slice na lx.length nc) lx.length (lx.map (.int .i64)) := owns_only hrow (S := [w.heap.size + 1]) o4 (fun k hk => by have := (hrow.lt k hk).1; have := HbV2.out.size; simp; omega)
    obtain ⟨W5, hW5⟩ : ∃ W5, (V4.alloc (Obj.cells #[.int .i64 rx, .slice na lx.length nc, .int .i64 sx, .bool false] 61)).drew = W5 := ⟨_, rfl⟩
    have o5 : Only [] V4 W5 := by rw [← hW5]; exact ((Only.refl [] V4).alloc _).drew
    have hvb5 : W5.heap[V4.heap.size]? = some (.cells #[.int .i64 rx, .slice na lx.length nc, .int .i64 sx, .bool false] 61 (0, 0)) := by rw [← hW5]; exact heap_alloc0 V4 _
    have hz5 : W5.heap.size = V4.heap.size + 1 := by rw [← hW5]; show (V4.alloc _).heap.size = _; simp
    have hB5 : Below w.heap.size w W5 := hB4.trans (o5.below.mono (by omega))
    have hins := insert_any B V4.heap.size (.slice va l.length vc) l i ⟨⟨rx, lx, sx, .slice na lx.length nc⟩, false⟩ W5 (H.out.ens.below hB5) hil hl (by have := hB5.size; omega) hvb5 (fun e => by have := (H.out.ens.own.lt _ e).2; omega) ⟨hxlen, owns_base (owns_below hrow4 o5.below) (by have := HbV2.out.size; omega)⟩
    rw [← hW5] at hins
    have Hins := hide hins
    have HV4 := hide hV4
    have HB5 := hide hB5
    have HP5 := hide ((o5.cell (p := ⟨w.heap.size, 0, none⟩) (by simp only; omega) (by simp)).trans c0)
    have HW5 := hide hW5
    have Hz5 := hide hz5
    have hbV4 : b < V4.heap.size := by omega
    have hpV4 : w.heap.size < V4.heap.size := by omega
    have hqV4 : w.heap.size + 1 < V4.heap.size := by omega
    have HbX := hide ((HB5.out.block b hlt).trans H.out.blk)
    clear hrow hb3 hB3 hpx m0 m1 m2 o4 hpx4 hB4 hrow4 hins hV4 hB5 Hncl HbV2 HX HAW HP2 hsz3 hsz4 g0 g2 o5 hvb5 hz5 hW5
    go_upto_region 4 with fail
    rw [HV4.out]
    go_region_law (first
      | (go_simp; go_at_call 48; have hqq := Hins.out; with_reducible refine Calls.mono hqq ?_; clear hqq; rintro r V6 ⟨v', rfl, h1, h2, h3⟩; obtain ⟨va', vc', rfl, _⟩ := h1.form; have hblk := lay_blk HW5.out Hz5.out hbV4 h2 H.out HbX.out; have hps := lay_ps HW5.out Hz5.out hpV4 h2 H.out HP5.out; obtain ⟨n0, n1, f0, f1⟩ := cells2e hblk; have H1 := hide h1; have H2 := hide h2; have H3 := hide h3; have Hblk := hide hblk; clear h1 h2 h3 hblk))
    all_goals
      have hfin := hide (lay_fin HW5.out HB5.out H1.out H2.out H3.out Hblk.out H.out.hB)
      clear n0 n1 f0 f1 hps H1 H2 H3 Hblk
      go_wp2
      go_end0
      exact ⟨rfl, _, _, hfin.out.1, .inr ⟨Hno.out, i, ⟨rx, lx, sx, .slice na lx.length nc⟩, hil, rfl, rfl⟩, hfin.out.2.1, hfin.out.2.2, NewTups.laid Hnt.out⟩
  · have Hyes := hide (any_idx.2 i e2)
    rw [e1] at Hf
    clear e1 e2
    have hi0 : (0 : Int) ≤ (i : Int) := by omega
    go_enter Try.func32, Try.ntmps32
    go_upto_region 1 with fail
    rw [HW.out]
    go_wp2_with fail
    refine Hf.out.mono ?_
    rintro r V ⟨rfl, hb⟩
    have HF := hide (BW.out.trans (hb.mono (by omega)))
    clear hb
    go_wp2
    refine bodyPost_ret (v := .tuple #[]) (by simp [results, Try.results32, go_sem]) rfl ?_
    exact ⟨rfl, _, l, H.out.below HF.out, .inl ⟨rfl, Hyes.out⟩, Only.of_below HF.out _, fun k hk => .inl hk, NewTups.refl _ _⟩

theorem lay_any (B b : Nat) (s : Int) (v : Value) (l : List En) (x : Ac) (w : World) (h : AgIs B w b s v l) (hl : l.length < 100000) (hB : B ≤ w.heap.size) (hx : NIs w x.x x.tup) :
    Calls Try.prog 32 #[.pointer (some ⟨b, 0, none⟩), x.val] w fun r w' => r = .returned (.tuple #[]) ∧ ∃ v' l', AgIs B w' b s v' l' ∧ LaidAs l x l' ∧ AgOnly b v w w' ∧ Stays v v' w :=
  (lay_new B b s v l x w h hl hB hx).mono fun _ _ ⟨h0, v', l', h1, h2, h3, h4, _⟩ => ⟨h0, v', l', h1, h2, h3, h4⟩
end Go.Proofs.Ytelgajgghgknnaa
