/- The document's Add. -/
import Derived.Test.YteealadflekffaaRM2
import Derived.BigRegion
import Derived.Deep.Cut
import Derived.Laws.OwnMore
namespace Go.Proofs.Yteealadflekffaa
open Go Go.RowKit Go.MapKept

theorem lit3 {w : World} {b : Nat} {x y z : Value} {t : TypeId} (h : w.heap[b]? = some (.cells #[x, y, z] t (0, 0))) : ∀ j u, [x, y, z][j]? = some u → w.cell? ((⟨b, 0, none⟩ : Addr).add j) = some u := by
  obtain ⟨c0, c1, c2, _⟩ := cells3 h
  intro j u hu
  rw [Addr.add_lit, Nat.zero_add]
  rcases j with _ | _ | _ | j
  · simp only [List.getElem?_cons_zero, Option.some.injEq] at hu
    subst hu
    exact c0
  · simp only [List.getElem?_cons_succ, List.getElem?_cons_zero, Option.some.injEq] at hu
    subst hu
    exact c1
  · simp only [List.getElem?_cons_succ, List.getElem?_cons_zero, Option.some.injEq] at hu
    subst hu
    exact c2
  · simp at hu
theorem own_apart {w : World} {B1 B2 k1 k2 n1 n2 : Nat} {e1 e2 : TypeId} {v1 v2 : Value} {x1 x2 : List Value} (he : e1 ≠ e2) (h1 : w.ownsRow B1 e1 k1 v1 n1 x1) (h2 : w.ownsRow B2 e2 k2 v2 n2 x2) : v2.ownBlock = none ∨ v2.ownBlock ≠ v1.ownBlock := by
  rcases h2.2 with ⟨rfl, _⟩ | ⟨g2, c2, u2, rfl, _, hg2, _⟩
  · exact .inl rfl
  · refine .inr fun e => ?_
    rcases h1.2 with ⟨rfl, _⟩ | ⟨g1, c1, u1, rfl, _, hg1, _⟩
    · simp [Value.ownBlock] at e
    · simp only [Value.ownBlock, Option.some.injEq] at e
      subst e
      rw [hg1] at hg2
      simp only [Option.some.injEq, Obj.cells.injEq] at hg2
      exact he hg2.2.1
theorem sl_src {w : World} {a : Option Addr} {n c : Nat} {s : List Vl} (h : SlIs w (.slice a n c) s) : n = s.length ∧ (a = none → s.length = 0 ∧ c = 0) ∧ ∀ p, a = some p → ∀ j u, (flat s)[j]? = some u → w.cell? (p.add j) = some u := by
  obtain ⟨_, ⟨b, off, cap, e, hc⟩ | ⟨rfl, e | ⟨p, cap, e⟩⟩⟩ := h
  · cases e
    exact ⟨rfl, by simp, fun p hp j u hu => by cases hp; rw [Addr.add_lit]; exact hc.cells_of j u hu⟩
  · cases e
    exact ⟨rfl, fun _ => ⟨rfl, rfl⟩, by simp⟩
  · cases e
    exact ⟨rfl, by simp, fun p hp j u hu => by simp [flat] at hu⟩
theorem RefIs.apart_sl {w : World} {r c : Nat} {a : Option Addr} {G : Mm} (h : RefIs w r a c G) {x : Value} {s : List Vl} (hx : SlIs w x s) (hn : s ≠ []) {k : Nat} (hk : blkOf x = some k) : k ≠ r := by
  rintro rfl
  obtain ⟨_, ⟨b, off, cap, rfl, hc⟩ | ⟨e, _⟩⟩ := hx
  · cases hk
    have c0 := (hc 0 (List.length_pos_iff.2 hn)).1
    rcases off with _ | _ | _ | n <;> simp [World.cell?, h.cells] at c0
  · exact hn e
theorem only_drew (w : World) (n : Nat) : Below w.heap.size w (w.drewN n) := ((Only.refl [] w).drewN n).below

theorem radd_old (r c : Nat) (a : Option Addr) (G : Mm) (hG : MemOk G) (f : Fc) (hf : f ∈ G.l) (x : Value) (w : World) (h : RefIs w r a c G) (hx : SlIs w x f.s) :
    Calls Try.prog 26 #[.pointer (some ⟨r, 0, none⟩), .int .i64 f.t, x] w fun e w' => e = .returned (.tuple #[.int .i64 f.id, .bool false, .int .i64 0]) ∧ Below w.heap.size w w' := by
  have HF := hide (rfind_any r c a G f.t x f.s w h hx)
  have hfv : G.find f.t f.s = f.id := by
    unfold Mm.find
    rw [Mm.find_mem hG hf]
  rw [hfv] at HF
  have hp : 0 < f.id := by have := hG.le f hf; omega
  obtain ⟨xa, xn, xc, rfl⟩ := hx.form
  obtain ⟨id, ft, fs, fx⟩ := f
  simp only at HF hp ⊢
  clear h hx hf hG hfv
  go_enter Try.func26, Try.ntmps26
  go_wp2_with fail
  (with_reducible refine HF.out.mono ?_)
  rintro e V ⟨rfl, n, rfl⟩
  go_wp2
  refine bodyPost_ret (v := .tuple #[.int .i64 id, .bool false, .int .i64 0]) (by simp [results, Try.results26, go_sem, *]) rfl ?_
  exact ⟨rfl, only_drew w n⟩

theorem radd_full (r c : Nat) (a : Option Addr) (G : Mm) (t : Int) (s : List Vl) (hh : G.hit t s = none) (hl : (G.l.length : Int) = G.limit) (x : Value) (w : World) (h : RefIs w r a c G) (hx : SlIs w x s) :
    Calls Try.prog 26 #[.pointer (some ⟨r, 0, none⟩), .int .i64 t, x] w fun e w' => e = .returned (.tuple #[.int .i64 0, .bool false, .int .i64 7]) ∧ Below w.heap.size w w' := by
  have HF := hide (rfind_any r c a G t x s w h hx)
  have hfv : G.find t s = 0 := by
    unfold Mm.find
    rw [hh]
  rw [hfv] at HF
  obtain ⟨xa, xn, xc, rfl⟩ := hx.form
  obtain ⟨lim, last, L⟩ := G
  simp only at hl
  obtain ⟨c0, c1, c2, _⟩ := cells3 h.cells
  simp only at c0 c2
  have hlen := h.fs.len
  simp only at hlen
  subst hl
  clear h hx hh hfv c1
  go_enter Try.func26, Try.ntmps26
  go_wp2_with fail
  (with_reducible refine HF.out.mono ?_)
  rintro e V ⟨rfl, n, rfl⟩
  go_wp2_with fail
  go_quiet (fail)
  go_wp2
  refine bodyPost_ret (v := .tuple #[.int .i64 0, .bool false, .int .i64 7]) (by simp [results, Try.results26, go_sem, *]) rfl ?_
  exact ⟨rfl, by first | exact only_drew w _ | (rw [World.drewN_drewN]; exact only_drew w _)⟩

set_option maxRecDepth 100000 in
set_option maxHeartbeats 8000000 in
theorem radd_new (r c : Nat) (a : Option Addr) (lim last : Int) (L : List Fc) (t : Int) (s : List Vl) (hh : Mm.hit ⟨lim, last, L⟩ t s = none) (hl : (L.length : Int) < lim) (hlim : lim ≤ 200) (h0 : 0 ≤ last) (hlast : last < 1000000000) (x : Value) (w : World) (h : RefIs w r a c ⟨lim, last, L⟩) (hx : SlIs w x s) :
    Calls Try.prog 26 #[.pointer (some ⟨r, 0, none⟩), .int .i64 t, x] w fun e w' => ∃ a' c' x', e = .returned (.tuple #[.int .i64 (last + 1), .bool true, .int .i64 0]) ∧ RefIs w' r a' c' (Mm.add ⟨lim, last, L⟩ t s x') ∧ (∀ k, FsFoot a' (Mm.add ⟨lim, last, L⟩ t s x').l k → FsFoot a L k ∨ w.heap.size ≤ k) ∧ Only [r] w w' := by
  have HF0 := hide (rfind_any r c a ⟨lim, last, L⟩ t x s w h hx)
  have hfv : Mm.find ⟨lim, last, L⟩ t s = 0 := by
    unfold Mm.find
    rw [hh]
  rw [hfv] at HF0
  obtain ⟨xa, xn, xc, rfl⟩ := hx.form
  have hsl := hx.1
  obtain ⟨rfl, hxn, _⟩ := sl_src hx
  have Hxnil := hide hxn
  have H := hide h
  have Hx := hide hx
  have Hnil := hide h.nil
  have Hone := hide (gflat_one' h.fs.vals)
  obtain ⟨jf, hi, hz0, hz1, hz2⟩ := info_parts3 infoF
  have Hif := hide hi
  have Hzf0 := hide hz0
  have Hzf1 := hide hz1
  have Hzf2 := hide hz2
  obtain ⟨jv, hi', hz0', hz1', hz2'⟩ := info_parts3 vinfo
  have Hiv := hide hi'
  have Hzv0 := hide hz0'
  have Hzv1 := hide hz1'
  have Hzv2 := hide hz2'
  have d1 : decide ((L.length : Int) < lim) = true := by simpa using hl
  have d2 : decide (lim ≤ (L.length : Int)) = false := by simp; omega
  have hrr := lt_of_heap h.cells
  clear h hx hh hfv hxn hi hz0 hz1 hz2 hi' hz0' hz1' hz2'
  go_enter Try.func26, Try.ntmps26
  go_wp2_with fail
  (with_reducible refine HF0.out.mono ?_)
  rintro e V ⟨rfl, n, hV⟩
  have bV : Below w.heap.size w V := by rw [hV]; exact only_drew w n
  have BV := hide bV
  obtain ⟨c0, c1, c2, f0, f1, f2⟩ := cells3 (H.out.only (Only.of_below bV []) (by simp)).cells
  simp only at c0 c1 c2
  have hrV : r < V.heap.size := Nat.lt_of_lt_of_le hrr bV.size
  clear hV bV
  go_wp2_with fail
  go_quiet (fail)
  go_upto_region 7 with fail
  obtain ⟨W0, hW0⟩ : ∃ W0, ((V.drewN nq).setCell ⟨r, 1, none⟩ (.int .i64 (last + 1))).drew = W0 := ⟨_, rfl⟩
  have oW : Only [r] w W0 := by rw [← hW0]; exact (((Only.of_below BV.out [r]).drewN nq).setCell (.inl (by simp)) _).drew
  have hr0 : W0.heap[r]? = some (.cells #[.int .i64 lim, .int .i64 (last + 1), .slice a L.length c] 61 (0, 0)) := by
    rw [← hW0]
    exact (setCell_heap (w := V.drewN nq) ((BV.out.block r hrr).trans H.out.cells)).trans (by simp)
  have hrW : r < W0.heap.size := lt_of_heap hr0
  have hF0 : FsIs W0 a L := H.out.fs.only oW fun k hk => by simpa using H.out.apart k hk
  have hX0 : SlIs W0 (.slice xa s.length xc) s := Hx.out.only oW fun hn k hk => by simpa using H.out.apart_sl Hx.out hn hk
  have Hkeep : Hid (∀ V, Below W0.heap.size W0 V → V.cell? ⟨r, 1, none⟩ = some (.int .i64 (last + 1)) ∧ V.cell? ⟨r, 2, none⟩ = some (.slice a L.length c) ∧ V.frozen? ⟨r, 2, none⟩ = false) := hide fun V hV => by
    obtain ⟨_, z1, z2, _, _, z5⟩ := cells3 ((hV.block r hrW).trans hr0)
    exact ⟨z1, z2, z5⟩
  have Hnews : Hid (∀ V, Below W0.heap.size W0 V → ∀ p, a = some p → ∀ j u, (gflat L)[j]? = some u → V.cell? (p.add j) = some u) := hide fun V hV => (hF0.only (Only.of_below hV []) (by simp)).news
  have Hxnews : Hid (∀ V, Below W0.heap.size W0 V → ∀ p, xa = some p → ∀ j u, (flat s)[j]? = some u → V.cell? (p.add j) = some u) := hide fun V hV => (sl_src (hX0.only (Only.of_below hV []) (by simp))).2.2
  have HR : Hid (∀ V, Below W0.heap.size W0 V → ∀ a' k' b' kb, V.ownsRow W0.heap.size 34 3 (.slice a' (L.length + 1) k') (L.length + 1) (gflat L ++ [.int .i64 (last + 1), .int .i64 t, .slice b' s.length kb]) → V.ownsRow W0.heap.size 28 3 (.slice b' s.length kb) s.length (flat s) →
      RefIs (V.setCell ⟨r, 2, none⟩ (.slice a' (L.length + 1) k')) r a' k' (Mm.add ⟨lim, last, L⟩ t s (.slice b' s.length kb)) ∧ (∀ k, FsFoot a' (Mm.add ⟨lim, last, L⟩ t s (.slice b' s.length kb)).l k → FsFoot a L k ∨ w.heap.size ≤ k) ∧ Only [r] w (V.setCell ⟨r, 2, none⟩ (.slice a' (L.length + 1) k'))) := hide fun V hV a' k' b' kb ho hv => by
    have oS : Only [r] V (V.setCell ⟨r, 2, none⟩ (.slice a' (L.length + 1) k')) := (Only.refl _ _).setCell (.inl (by simp)) _
    obtain ⟨v1, v2⟩ := SlIs.of_owns (l := s) hv hsl rfl
    have hx' : SlIs (V.setCell ⟨r, 2, none⟩ (.slice a' (L.length + 1) k')) (.slice b' s.length kb) s := v1.only oS fun _ k hk => by
      have := v2.le hk
      simp
      omega
    have ho2 : V.ownsRow W0.heap.size 34 3 (.slice a' (L.length + 1) k') (L.length + 1) (gflat (L ++ [⟨last + 1, t, s, .slice b' s.length kb⟩])) := by
      unfold gflat
      rw [List.flatMap_append]
      exact ho
    obtain ⟨f1, f2, f3⟩ := FsIs.of_own ho2 (by simp) (by simp; omega) fun f hf => by
      rcases List.mem_append.1 hf with q | q
      · exact (hF0.vals f q).only (Only.of_below hV []) (by simp)
      · rw [List.mem_singleton.1 q]
        exact v1
    have hfoot : ∀ k, FsFoot a' (L ++ [⟨last + 1, t, s, .slice b' s.length kb⟩]) k → FsFoot a L k ∨ W0.heap.size ≤ k := by
      rintro k (⟨_, p, hp, rfl⟩ | ⟨f, hf, hn, hk⟩)
      · exact .inr (f3 p hp).1
      · rcases List.mem_append.1 hf with q | q
        · exact .inl (.inr ⟨f, q, hn, hk⟩)
        · rw [List.mem_singleton.1 q] at hk
          exact .inr (v2.le hk)
    have hne : ∀ k, FsFoot a' (L ++ [⟨last + 1, t, s, .slice b' s.length kb⟩]) k → k ≠ r := fun k hk => by
      rcases hfoot k hk with q | q
      · exact H.out.apart k q
      · omega
    refine ⟨⟨?_, f1.only oS fun k hk => by simpa using hne k hk, hne, f2⟩, fun k hk => (hfoot k hk).imp id fun q => Nat.le_trans oW.size q, (oW.trans (Only.of_below hV [r])).trans oS⟩
    have := setCell_heap (i := 2) (u := .slice a' (L.length + 1) k') ((hV.block r hrW).trans hr0)
    rw [this]
    simp [Mm.add]
  obtain ⟨y1W0, y2W0, yfW0⟩ := Hkeep.out W0 (Below.refl _ _)
  have bW0 : Below W0.heap.size W0 W0 := Below.refl _ _
  have hL2 : L.length < 200 := by omega
  clear hr0 hF0 hX0 oW hl
  refine wp_region_noPanic ?_
  refine wp_region_held_drew (S := fun V => V.cell? ⟨r, 1, none⟩ = some (.int .i64 (last + 1))) (by kernel_rfl) ?_ (fun hHeld => ?_)
  · (try dsimp only); (first | assumption | go_keep)
  rw [hW0] at hHeld ⊢
  clear hW0
  refine wpAnyH_take (i := 0) (oi := ⟨some 34, _, _, _, _, _⟩) (v := ?vf1) rfl (by kernel_rfl) (by kernel_rfl) (by kernel_rfl) (fun _ _ _ h => h) (Or.inl ⟨by rfl, ?hf1⟩) (by assumption) ?rf1
  case hf1 => (intro w hSw; (try dsimp only at hSw); (first | (go_simp; done) | (go_simp; with_reducible rfl)))
  try simp only [Act.put, List.setIfInBounds_toArray, List.set_cons_zero, List.set_cons_succ]
  refine wpAnyH_take (i := 2) (oi := ⟨some 36, _, _, _, _, _⟩) (v := ?vf2) rfl (by kernel_rfl) (by kernel_rfl) (by kernel_rfl) (fun _ _ _ h => h) (Or.inl ⟨by rfl, ?hf2⟩) (by assumption) ?rf2
  case hf2 => (intro w hSw; (try dsimp only at hSw); (first | (go_simp; done) | (go_simp; with_reducible rfl)))
  try simp only [Act.put, List.setIfInBounds_toArray, List.set_cons_zero, List.set_cons_succ]
  refine wpAnyH_take (i := 3) (oi := ⟨some 37, _, _, _, _, _⟩) (v := ?vf3) rfl (by kernel_rfl) (by kernel_rfl) (by kernel_rfl) (fun _ _ _ h => h) (Or.inl ⟨by rfl, ?hf3⟩) (by assumption) ?rf3
  case hf3 => (intro w hSw; (try dsimp only at hSw); (first | (go_simp; done) | (go_simp; with_reducible rfl)))
  try simp only [Act.put, List.setIfInBounds_toArray, List.set_cons_zero, List.set_cons_succ]
  refine wpAnyH_take (i := 4) (oi := ⟨some 38, _, _, _, _, _⟩) (v := ?vf4) rfl (by kernel_rfl) (by kernel_rfl) (by kernel_rfl) (fun _ _ _ h => h) (Or.inl ⟨by rfl, ?hf4⟩) (by assumption) ?rf4
  case hf4 => (intro w hSw; (try dsimp only at hSw); (first | (go_simp; done) | (go_simp; with_reducible rfl)))
  try simp only [Act.put, List.setIfInBounds_toArray, List.set_cons_zero, List.set_cons_succ]
  refine wpAnyH_take (i := 7) (oi := ⟨some 41, _, _, _, _, _⟩) (v := ?vf5) rfl (by kernel_rfl) (by kernel_rfl) (by kernel_rfl) (fun _ _ _ h => h) (Or.inl ⟨by rfl, ?hf5⟩) (by assumption) ?rf5
  case hf5 => (intro w hSw; (try dsimp only at hSw); (first | (go_simp; done) | (go_simp; with_reducible rfl)))
  try simp only [Act.put, List.setIfInBounds_toArray, List.set_cons_zero, List.set_cons_succ]
  refine wpAnyH_take (i := 8) (oi := ⟨some 42, _, _, _, _, _⟩) (v := ?vf6) rfl (by kernel_rfl) (by kernel_rfl) (by kernel_rfl) (fun _ _ _ h => h) (Or.inl ⟨by rfl, ?hf6⟩) (by assumption) ?rf6
  case hf6 => (intro w hSw; (try dsimp only at hSw); (first | (go_simp; done) | (go_simp; with_reducible rfl)))
  try simp only [Act.put, List.setIfInBounds_toArray, List.set_cons_zero, List.set_cons_succ]
  refine wpAnyH_take (i := 9) (oi := ⟨some 43, _, _, _, _, _⟩) (v := ?vf7) rfl (by kernel_rfl) (by kernel_rfl) (by kernel_rfl) (fun _ _ _ h => h) (Or.inl ⟨by rfl, ?hf7⟩) (by assumption) ?rf7
  case hf7 => (intro w hSw; (try dsimp only at hSw); (first | (go_simp; done) | (go_simp; with_reducible rfl)))
  try simp only [Act.put, List.setIfInBounds_toArray, List.set_cons_zero, List.set_cons_succ]
  refine wpAnyH_take (i := 10) (oi := ⟨some 44, _, _, _, _, _⟩) (v := ?vf8) rfl (by kernel_rfl) (by kernel_rfl) (by kernel_rfl) (fun _ _ _ h => h) (Or.inl ⟨by rfl, ?hf8⟩) (by assumption) ?rf8
  case hf8 => (intro w hSw; (try dsimp only at hSw); (first | (go_simp; done) | (go_simp; with_reducible rfl)))
  try simp only [Act.put, List.setIfInBounds_toArray, List.set_cons_zero, List.set_cons_succ]
  refine wpAnyH_take (i := 11) (oi := ⟨some 45, _, _, _, _, _⟩) (v := ?vf9) rfl (by kernel_rfl) (by kernel_rfl) (by kernel_rfl) (fun _ _ _ h => h) (Or.inl ⟨by rfl, ?hf9⟩) (by assumption) ?rf9
  case hf9 => (intro w hSw; (try dsimp only at hSw); (first | (go_simp; done) | (go_simp; with_reducible rfl)))
  try simp only [Act.put, List.setIfInBounds_toArray, List.set_cons_zero, List.set_cons_succ]
  refine wpAnyH_take (i := 13) (oi := ⟨some 47, _, _, _, _, _⟩) (v := ?vf10) rfl (by kernel_rfl) (by kernel_rfl) (by kernel_rfl) (fun _ _ _ h => h) (Or.inl ⟨by rfl, ?hf10⟩) (by assumption) ?rf10
  case hf10 => (intro w hSw; (try dsimp only at hSw); (first | (go_simp; done) | (go_simp; with_reducible rfl)))
  try simp only [Act.put, List.setIfInBounds_toArray, List.set_cons_zero, List.set_cons_succ]
  refine wpAnyH_ready (rs := [1, 5, 12]) (by kernel_rfl) (by simp) ?_
  refine (AllReadyH.cons (o := ⟨some 35, _, _, _, _, _⟩) (rs := [5, 12]) rfl (fun K hK => ?_) (AllReadyH.cons (o := ⟨some 39, _, _, _, _, _⟩) (rs := [12]) rfl (fun K hK => ?_) (AllReadyH.cons (o := ⟨some 46, _, _, _, _, _⟩) (rs := []) rfl (fun K hK => ?_) AllReadyH.nil)))
  · have xV1f := heap_new W0 (.cells #[] 34)
    have cV1f := (Below.refl W0.heap.size W0).alloc (Nat.le_refl _) (.cells #[] 34)
    obtain ⟨V1f, eV1f⟩ : ∃ V, W0.alloc (.cells #[] 34) = V := ⟨_, rfl⟩
    rw [eV1f] at xV1f cV1f
    have bV1f := bW0.trans (cV1f.mono bW0.size)
    obtain ⟨y1V1f, y2V1f, yfV1f⟩ := Hkeep.out V1f bV1f
    go_simp
    clear eV1f
    try go_wp2_with fail
    clear hHeld
    refine hK.out _ _ ?_ (fun hHeld => ?_)
    · (try dsimp only); (first | assumption | go_keep)
    clear hK K
    try simp only [Act.put, List.setIfInBounds_toArray, List.set_cons_zero, List.set_cons_succ]
    refine wpAnyH_ready (rs := [5, 12]) (by kernel_rfl) (by simp) ?_
    refine (AllReadyH.cons (o := ⟨some 39, _, _, _, _, _⟩) (rs := [12]) rfl (fun K hK => ?_) (AllReadyH.cons (o := ⟨some 46, _, _, _, _, _⟩) (rs := []) rfl (fun K hK => ?_) AllReadyH.nil))
    · go_simp
      try go_wp2_with fail
      clear hHeld
      refine hK.out _ _ ?_ (fun hHeld => ?_)
      · (try dsimp only); (first | assumption | go_keep)
      clear hK K
      try simp only [Act.put, List.setIfInBounds_toArray, List.set_cons_zero, List.set_cons_succ]
      refine wpAnyH_ready (rs := [6, 12]) (by kernel_rfl) (by simp) ?_
      refine (AllReadyH.cons (o := ⟨some 40, _, _, _, _, _⟩) (rs := [12]) rfl (fun K hK => ?_) (AllReadyH.cons (o := ⟨some 46, _, _, _, _, _⟩) (rs := []) rfl (fun K hK => ?_) AllReadyH.nil))
      · refine step_append_in rfl (.tmp 35) (.tmp 39) 54 rfl W0.heap.size 34 jf (.agg #[.int .i64 0, .int .i64 0, .slice none 0 0]) 3 40 Try.underlying54 Hif.out Hzf0.out Hzf1.out Hzf2.out rfl (by decide) (.slice (some ⟨W0.heap.size, 0, none⟩) 0 0) 0 [] (by simp [Act.eval]) (own_empty (B := W0.heap.size) (k := 3) xV1f bW0.size) a L.length c (gflat L) (by simp [Act.eval]) Hnil.out (gflat_len L) (Hnews.out V1f bV1f) Hone.out (by unfold maxLen; omega) (by omega) bV1f.size ?_
        intro uV2f V2f oV2f gV2f
        rw [Nat.zero_add, List.nil_append] at oV2f
        obtain ⟨aV2f, kV2f, rfl⟩ := own_form oV2f
        have bV2f : Below W0.heap.size W0 V2f := bV1f.grown gV2f bV1f.size (fun k e => (World.ownsRow.lt (own_empty (B := W0.heap.size) (k := 3) xV1f bW0.size) k e).1)
        obtain ⟨y1V2f, y2V2f, yfV2f⟩ := Hkeep.out V2f bV2f
        clear hHeld
        refine hK.out _ _ ?_ (fun hHeld => ?_)
        · (try dsimp only); (first | assumption | go_keep)
        clear hK K
        try simp only [Act.put, List.setIfInBounds_toArray, List.set_cons_zero, List.set_cons_succ]
        refine wpAnyH_ready (rs := [12]) (by kernel_rfl) (by simp) ?_
        refine (AllReadyH.cons (o := ⟨some 46, _, _, _, _, _⟩) (rs := []) rfl (fun K hK => ?_) AllReadyH.nil)
        have xV3f := heap_new V2f (.cells #[] 28)
        have cV3f := (Below.refl V2f.heap.size V2f).alloc (Nat.le_refl _) (.cells #[] 28)
        obtain ⟨V3f, eV3f⟩ : ∃ V, V2f.alloc (.cells #[] 28) = V := ⟨_, rfl⟩
        rw [eV3f] at xV3f cV3f
        have bV3f := bV2f.trans (cV3f.mono bV2f.size)
        obtain ⟨y1V3f, y2V3f, yfV3f⟩ := Hkeep.out V3f bV3f
        go_simp
        clear eV3f
        try go_wp2_with fail
        clear hHeld
        refine hK.out _ _ ?_ (fun hHeld => ?_)
        · (try dsimp only); (first | assumption | go_keep)
        clear hK K
        try simp only [Act.put, List.setIfInBounds_toArray, List.set_cons_zero, List.set_cons_succ]
        refine wpAnyH_ready (rs := [14]) (by kernel_rfl) (by simp) ?_
        refine (AllReadyH.cons (o := ⟨some 48, _, _, _, _, _⟩) (rs := []) rfl (fun K hK => ?_) AllReadyH.nil)
        refine step_append_in rfl (.tmp 46) (.tmp 47) 26 rfl W0.heap.size 28 jv (.agg #[.int .u8 0, .int .i64 0, .string ⟨#[]⟩]) 3 32 Try.underlying26 Hiv.out Hzv0.out Hzv1.out Hzv2.out rfl (by decide) (.slice (some ⟨V2f.heap.size, 0, none⟩) 0 0) 0 [] (by simp [Act.eval]) (own_empty (B := W0.heap.size) (k := 3) xV3f bV2f.size) xa s.length xc (flat s) (by simp [Act.eval]) Hxnil.out (flat_length s) (Hxnews.out V3f bV3f) (flat_one s) (by unfold maxLen; omega) (by omega) bV3f.size ?_
        intro uV4f V4f oV4f gV4f
        rw [Nat.zero_add, List.nil_append] at oV4f
        obtain ⟨aV4f, kV4f, rfl⟩ := own_form oV4f
        have bV4f : Below W0.heap.size W0 V4f := bV3f.grown gV4f bV3f.size (fun k e => (World.ownsRow.lt (own_empty (B := W0.heap.size) (k := 3) xV3f bV2f.size) k e).1)
        obtain ⟨y1V4f, y2V4f, yfV4f⟩ := Hkeep.out V4f bV4f
        clear hHeld
        refine hK.out _ _ ?_ (fun hHeld => ?_)
        · (try dsimp only); (first | assumption | go_keep)
        clear hK K
        try simp only [Act.put, List.setIfInBounds_toArray, List.set_cons_zero, List.set_cons_succ]
        refine wpAnyH_take (i := 15) (oi := ⟨some 49, _, _, _, _, _⟩) (v := ?vf11) rfl (by kernel_rfl) (by kernel_rfl) (by kernel_rfl) (fun _ _ _ h => h) (Or.inl ⟨by rfl, ?hf11⟩) (by assumption) ?rf11
        case hf11 => (intro w hSw; (try dsimp only at hSw); (first | (go_simp; done) | (go_simp; with_reducible rfl)))
        try simp only [Act.put, List.setIfInBounds_toArray, List.set_cons_zero, List.set_cons_succ]
        refine wpAnyH_ready (rs := [16]) (by kernel_rfl) (by simp) ?_
        refine (AllReadyH.cons (o := ⟨some 50, _, _, _, _, _⟩) (rs := []) rfl (fun K hK => ?_) AllReadyH.nil)
        have xV5f := heap_new V4f (.cells #[.int .i64 (last + 1), .int .i64 t, .slice aV4f s.length kV4f] 34)
        have cV5f := (Below.refl V4f.heap.size V4f).alloc (Nat.le_refl _) (.cells #[.int .i64 (last + 1), .int .i64 t, .slice aV4f s.length kV4f] 34)
        obtain ⟨V5f, eV5f⟩ : ∃ V, V4f.alloc (.cells #[.int .i64 (last + 1), .int .i64 t, .slice aV4f s.length kV4f] 34) = V := ⟨_, rfl⟩
        rw [eV5f] at xV5f cV5f
        have bV5f := bV4f.trans (cV5f.mono bV4f.size)
        obtain ⟨y1V5f, y2V5f, yfV5f⟩ := Hkeep.out V5f bV5f
        go_simp
        clear eV5f
        try go_wp2_with fail
        clear hHeld
        refine hK.out _ _ ?_ (fun hHeld => ?_)
        · (try dsimp only); (first | assumption | go_keep)
        clear hK K
        try simp only [Act.put, List.setIfInBounds_toArray, List.set_cons_zero, List.set_cons_succ]
        refine wpAnyH_ready (rs := [17]) (by kernel_rfl) (by simp) ?_
        refine (AllReadyH.cons (o := ⟨some 51, _, _, _, _, _⟩) (rs := []) rfl (fun K hK => ?_) AllReadyH.nil)
        refine step_append_in rfl (.tmp 40) (.tmp 50) 54 rfl W0.heap.size 34 jf (.agg #[.int .i64 0, .int .i64 0, .slice none 0 0]) 3 40 Try.underlying54 Hif.out Hzf0.out Hzf1.out Hzf2.out rfl (by decide) (.slice aV2f L.length kV2f) L.length (gflat L) (by simp [Act.eval]) (own_below (World.ownsRow.kept (own_below oV2f cV3f) gV4f (own_apart (by decide) (own_empty (B := W0.heap.size) (k := 3) xV3f bV2f.size) (own_below oV2f cV3f))) cV5f) (some ⟨V4f.heap.size, 0, none⟩) 1 1 [.int .i64 (last + 1), .int .i64 t, .slice aV4f s.length kV4f] (by simp [Act.eval]) (by simp) (by rfl) (by intro q hq; cases hq; exact lit3 xV5f) (by simp [Value.oneCell']) (by unfold maxLen; omega) (by omega) bV5f.size ?_
        intro uV6f V6f oV6f gV6f
        obtain ⟨aV6f, kV6f, rfl⟩ := own_form oV6f
        have bV6f : Below W0.heap.size W0 V6f := bV5f.grown gV6f bV5f.size (fun k e => (World.ownsRow.lt (own_below (World.ownsRow.kept (own_below oV2f cV3f) gV4f (own_apart (by decide) (own_empty (B := W0.heap.size) (k := 3) xV3f bV2f.size) (own_below oV2f cV3f))) cV5f) k e).1)
        obtain ⟨y1V6f, y2V6f, yfV6f⟩ := Hkeep.out V6f bV6f
        clear hHeld
        refine hK.out _ _ ?_ (fun hHeld => ?_)
        · (try dsimp only); (first | assumption | go_keep)
        clear hK K
        try simp only [Act.put, List.setIfInBounds_toArray, List.set_cons_zero, List.set_cons_succ]
        refine wpAnyH_take (i := 18) (oi := ⟨some 52, _, _, _, _, _⟩) (v := ?vf12) rfl (by kernel_rfl) (by kernel_rfl) (by kernel_rfl) (fun _ _ _ h => h) (Or.inl ⟨by rfl, ?hf12⟩) (by assumption) ?rf12
        case hf12 => (intro w hSw; (try dsimp only at hSw); (first | (go_simp; done) | (go_simp; with_reducible rfl)))
        try simp only [Act.put, List.setIfInBounds_toArray, List.set_cons_zero, List.set_cons_succ]
        refine wpAnyH_take (i := 19) (oi := ⟨some 53, _, _, _, _, _⟩) (v := ?vf13) rfl (by kernel_rfl) (by kernel_rfl) (by kernel_rfl) (fun _ _ _ h => h) (Or.inl ⟨by rfl, ?hf13⟩) (by assumption) ?rf13
        case hf13 => (intro w hSw; (try dsimp only at hSw); (first | (go_simp; done) | (go_simp; with_reducible rfl)))
        try simp only [Act.put, List.setIfInBounds_toArray, List.set_cons_zero, List.set_cons_succ]
        refine wpAnyH_ready (rs := [20]) (by kernel_rfl) (by simp) ?_
        refine (AllReadyH.cons (o := ⟨none, _, _, _, _, _⟩) (rs := []) rfl (fun K hK => ?_) AllReadyH.nil)
        have HF := hide (HR.out V6f bV6f _ _ _ _ oV6f (World.ownsRow.kept (own_below oV4f cV5f) gV6f (own_apart (by decide) (own_below (World.ownsRow.kept (own_below oV2f cV3f) gV4f (own_apart (by decide) (own_empty (B := W0.heap.size) (k := 3) xV3f bV2f.size) (own_below oV2f cV3f))) cV5f) (own_below oV4f cV5f))))
        have q1 : (World.setCell V6f ⟨r, 2, none⟩ (.slice aV6f (L.length + 1) kV6f)).cell? ⟨r, 1, none⟩ = some (.int .i64 (last + 1)) := (cells3 HF.out.1.cells).2.1
        go_simp
        try go_wp2_with fail
        clear hHeld
        refine hK.out _ _ ?_ (fun hHeld => ?_)
        · (try dsimp only); (first | assumption | go_keep)
        clear hK K
        try simp only [Act.put, List.setIfInBounds_toArray, List.set_cons_zero, List.set_cons_succ]
        refine wpAnyH_done (by kernel_rfl) ?_ _
        refine NoPanic.normal ?_
        clear hHeld
        go_wp2
        refine bodyPost_ret (v := .tuple #[.int .i64 (last + 1), .bool true, .int .i64 0]) (by simp [results, Try.results26, go_sem, *]) rfl ?_
        exact ⟨_, _, _, rfl, HF.out.1, HF.out.2.1, HF.out.2.2⟩
      · have xV8f := heap_new V1f (.cells #[] 28)
        have cV8f := (Below.refl V1f.heap.size V1f).alloc (Nat.le_refl _) (.cells #[] 28)
        obtain ⟨V8f, eV8f⟩ : ∃ V, V1f.alloc (.cells #[] 28) = V := ⟨_, rfl⟩
        rw [eV8f] at xV8f cV8f
        have bV8f := bV1f.trans (cV8f.mono bV1f.size)
        obtain ⟨y1V8f, y2V8f, yfV8f⟩ := Hkeep.out V8f bV8f
        go_simp
        clear eV8f
        try go_wp2_with fail
        clear hHeld
        refine hK.out _ _ ?_ (fun hHeld => ?_)
        · (try dsimp only); (first | assumption | go_keep)
        clear hK K
        try simp only [Act.put, List.setIfInBounds_toArray, List.set_cons_zero, List.set_cons_succ]
        refine wpAnyH_ready (rs := [6]) (by kernel_rfl) (by simp) ?_
        refine (AllReadyH.cons (o := ⟨some 40, _, _, _, _, _⟩) (rs := []) rfl (fun K hK => ?_) AllReadyH.nil)
        refine step_append_in rfl (.tmp 35) (.tmp 39) 54 rfl W0.heap.size 34 jf (.agg #[.int .i64 0, .int .i64 0, .slice none 0 0]) 3 40 Try.underlying54 Hif.out Hzf0.out Hzf1.out Hzf2.out rfl (by decide) (.slice (some ⟨W0.heap.size, 0, none⟩) 0 0) 0 [] (by simp [Act.eval]) (own_below (own_empty (B := W0.heap.size) (k := 3) xV1f bW0.size) cV8f) a L.length c (gflat L) (by simp [Act.eval]) Hnil.out (gflat_len L) (Hnews.out V8f bV8f) Hone.out (by unfold maxLen; omega) (by omega) bV8f.size ?_
        intro uV9f V9f oV9f gV9f
        rw [Nat.zero_add, List.nil_append] at oV9f
        obtain ⟨aV9f, kV9f, rfl⟩ := own_form oV9f
        have bV9f : Below W0.heap.size W0 V9f := bV8f.grown gV9f bV8f.size (fun k e => (World.ownsRow.lt (own_below (own_empty (B := W0.heap.size) (k := 3) xV1f bW0.size) cV8f) k e).1)
        obtain ⟨y1V9f, y2V9f, yfV9f⟩ := Hkeep.out V9f bV9f
        clear hHeld
        refine hK.out _ _ ?_ (fun hHeld => ?_)
        · (try dsimp only); (first | assumption | go_keep)
        clear hK K
        try simp only [Act.put, List.setIfInBounds_toArray, List.set_cons_zero, List.set_cons_succ]
        refine wpAnyH_ready (rs := [14]) (by kernel_rfl) (by simp) ?_
        refine (AllReadyH.cons (o := ⟨some 48, _, _, _, _, _⟩) (rs := []) rfl (fun K hK => ?_) AllReadyH.nil)
        refine step_append_in rfl (.tmp 46) (.tmp 47) 26 rfl W0.heap.size 28 jv (.agg #[.int .u8 0, .int .i64 0, .string ⟨#[]⟩]) 3 32 Try.underlying26 Hiv.out Hzv0.out Hzv1.out Hzv2.out rfl (by decide) (.slice (some ⟨V1f.heap.size, 0, none⟩) 0 0) 0 [] (by simp [Act.eval]) (World.ownsRow.kept (own_empty (B := W0.heap.size) (k := 3) xV8f bV1f.size) gV9f (own_apart (by decide) (own_below (own_empty (B := W0.heap.size) (k := 3) xV1f bW0.size) cV8f) (own_empty (B := W0.heap.size) (k := 3) xV8f bV1f.size))) xa s.length xc (flat s) (by simp [Act.eval]) Hxnil.out (flat_length s) (Hxnews.out V9f bV9f) (flat_one s) (by unfold maxLen; omega) (by omega) bV9f.size ?_
        intro uV10f V10f oV10f gV10f
        rw [Nat.zero_add, List.nil_append] at oV10f
        obtain ⟨aV10f, kV10f, rfl⟩ := own_form oV10f
        have bV10f : Below W0.heap.size W0 V10f := bV9f.grown gV10f bV9f.size (fun k e => (World.ownsRow.lt (World.ownsRow.kept (own_empty (B := W0.heap.size) (k := 3) xV8f bV1f.size) gV9f (own_apart (by decide) (own_below (own_empty (B := W0.heap.size) (k := 3) xV1f bW0.size) cV8f) (own_empty (B := W0.heap.size) (k := 3) xV8f bV1f.size))) k e).1)
        obtain ⟨y1V10f, y2V10f, yfV10f⟩ := Hkeep.out V10f bV10f
        clear hHeld
        refine hK.out _ _ ?_ (fun hHeld => ?_)
        · (try dsimp only); (first | assumption | go_keep)
        clear hK K
        try simp only [Act.put, List.setIfInBounds_toArray, List.set_cons_zero, List.set_cons_succ]
        refine wpAnyH_take (i := 15) (oi := ⟨some 49, _, _, _, _, _⟩) (v := ?vf14) rfl (by kernel_rfl) (by kernel_rfl) (by kernel_rfl) (fun _ _ _ h => h) (Or.inl ⟨by rfl, ?hf14⟩) (by assumption) ?rf14
        case hf14 => (intro w hSw; (try dsimp only at hSw); (first | (go_simp; done) | (go_simp; with_reducible rfl)))
        try simp only [Act.put, List.setIfInBounds_toArray, List.set_cons_zero, List.set_cons_succ]
        refine wpAnyH_ready (rs := [16]) (by kernel_rfl) (by simp) ?_
        refine (AllReadyH.cons (o := ⟨some 50, _, _, _, _, _⟩) (rs := []) rfl (fun K hK => ?_) AllReadyH.nil)
        have xV11f := heap_new V10f (.cells #[.int .i64 (last + 1), .int .i64 t, .slice aV10f s.length kV10f] 34)
        have cV11f := (Below.refl V10f.heap.size V10f).alloc (Nat.le_refl _) (.cells #[.int .i64 (last + 1), .int .i64 t, .slice aV10f s.length kV10f] 34)
        obtain ⟨V11f, eV11f⟩ : ∃ V, V10f.alloc (.cells #[.int .i64 (last + 1), .int .i64 t, .slice aV10f s.length kV10f] 34) = V := ⟨_, rfl⟩
        rw [eV11f] at xV11f cV11f
        have bV11f := bV10f.trans (cV11f.mono bV10f.size)
        obtain ⟨y1V11f, y2V11f, yfV11f⟩ := Hkeep.out V11f bV11f
        go_simp
        clear eV11f
        try go_wp2_with fail
        clear hHeld
        refine hK.out _ _ ?_ (fun hHeld => ?_)
        · (try dsimp only); (first | assumption | go_keep)
        clear hK K
        try simp only [Act.put, List.setIfInBounds_toArray, List.set_cons_zero, List.set_cons_succ]
        refine wpAnyH_ready (rs := [17]) (by kernel_rfl) (by simp) ?_
        refine (AllReadyH.cons (o := ⟨some 51, _, _, _, _, _⟩) (rs := []) rfl (fun K hK => ?_) AllReadyH.nil)
        refine step_append_in rfl (.tmp 40) (.tmp 50) 54 rfl W0.heap.size 34 jf (.agg #[.int .i64 0, .int .i64 0, .slice none 0 0]) 3 40 Try.underlying54 Hif.out Hzf0.out Hzf1.out Hzf2.out rfl (by decide) (.slice aV9f L.length kV9f) L.length (gflat L) (by simp [Act.eval]) (own_below (World.ownsRow.kept oV9f gV10f (own_apart (by decide) (World.ownsRow.kept (own_empty (B := W0.heap.size) (k := 3) xV8f bV1f.size) gV9f (own_apart (by decide) (own_below (own_empty (B := W0.heap.size) (k := 3) xV1f bW0.size) cV8f) (own_empty (B := W0.heap.size) (k := 3) xV8f bV1f.size))) oV9f)) cV11f) (some ⟨V10f.heap.size, 0, none⟩) 1 1 [.int .i64 (last + 1), .int .i64 t, .slice aV10f s.length kV10f] (by simp [Act.eval]) (by simp) (by rfl) (by intro q hq; cases hq; exact lit3 xV11f) (by simp [Value.oneCell']) (by unfold maxLen; omega) (by omega) bV11f.size ?_
        intro uV12f V12f oV12f gV12f
        obtain ⟨aV12f, kV12f, rfl⟩ := own_form oV12f
        have bV12f : Below W0.heap.size W0 V12f := bV11f.grown gV12f bV11f.size (fun k e => (World.ownsRow.lt (own_below (World.ownsRow.kept oV9f gV10f (own_apart (by decide) (World.ownsRow.kept (own_empty (B := W0.heap.size) (k := 3) xV8f bV1f.size) gV9f (own_apart (by decide) (own_below (own_empty (B := W0.heap.size) (k := 3) xV1f bW0.size) cV8f) (own_empty (B := W0.heap.size) (k := 3) xV8f bV1f.size))) oV9f)) cV11f) k e).1)
        obtain ⟨y1V12f, y2V12f, yfV12f⟩ := Hkeep.out V12f bV12f
        clear hHeld
        refine hK.out _ _ ?_ (fun hHeld => ?_)
        · (try dsimp only); (first | assumption | go_keep)
        clear hK K
        try simp only [Act.put, List.setIfInBounds_toArray, List.set_cons_zero, List.set_cons_succ]
        refine wpAnyH_take (i := 18) (oi := ⟨some 52, _, _, _, _, _⟩) (v := ?vf15) rfl (by kernel_rfl) (by kernel_rfl) (by kernel_rfl) (fun _ _ _ h => h) (Or.inl ⟨by rfl, ?hf15⟩) (by assumption) ?rf15
        case hf15 => (intro w hSw; (try dsimp only at hSw); (first | (go_simp; done) | (go_simp; with_reducible rfl)))
        try simp only [Act.put, List.setIfInBounds_toArray, List.set_cons_zero, List.set_cons_succ]
        refine wpAnyH_take (i := 19) (oi := ⟨some 53, _, _, _, _, _⟩) (v := ?vf16) rfl (by kernel_rfl) (by kernel_rfl) (by kernel_rfl) (fun _ _ _ h => h) (Or.inl ⟨by rfl, ?hf16⟩) (by assumption) ?rf16
        case hf16 => (intro w hSw; (try dsimp only at hSw); (first | (go_simp; done) | (go_simp; with_reducible rfl)))
        try simp only [Act.put, List.setIfInBounds_toArray, List.set_cons_zero, List.set_cons_succ]
        refine wpAnyH_ready (rs := [20]) (by kernel_rfl) (by simp) ?_
        refine (AllReadyH.cons (o := ⟨none, _, _, _, _, _⟩) (rs := []) rfl (fun K hK => ?_) AllReadyH.nil)
        have HF := hide (HR.out V12f bV12f _ _ _ _ oV12f (World.ownsRow.kept (own_below oV10f cV11f) gV12f (own_apart (by decide) (own_below (World.ownsRow.kept oV9f gV10f (own_apart (by decide) (World.ownsRow.kept (own_empty (B := W0.heap.size) (k := 3) xV8f bV1f.size) gV9f (own_apart (by decide) (own_below (own_empty (B := W0.heap.size) (k := 3) xV1f bW0.size) cV8f) (own_empty (B := W0.heap.size) (k := 3) xV8f bV1f.size))) oV9f)) cV11f) (own_below oV10f cV11f))))
        have q1 : (World.setCell V12f ⟨r, 2, none⟩ (.slice aV12f (L.length + 1) kV12f)).cell? ⟨r, 1, none⟩ = some (.int .i64 (last + 1)) := (cells3 HF.out.1.cells).2.1
        go_simp
        try go_wp2_with fail
        clear hHeld
        refine hK.out _ _ ?_ (fun hHeld => ?_)
        · (try dsimp only); (first | assumption | go_keep)
        clear hK K
        try simp only [Act.put, List.setIfInBounds_toArray, List.set_cons_zero, List.set_cons_succ]
        refine wpAnyH_done (by kernel_rfl) ?_ _
        refine NoPanic.normal ?_
        clear hHeld
        go_wp2
        refine bodyPost_ret (v := .tuple #[.int .i64 (last + 1), .bool true, .int .i64 0]) (by simp [results, Try.results26, go_sem, *]) rfl ?_
        exact ⟨_, _, _, rfl, HF.out.1, HF.out.2.1, HF.out.2.2⟩
    · have xV14f := heap_new V1f (.cells #[] 28)
      have cV14f := (Below.refl V1f.heap.size V1f).alloc (Nat.le_refl _) (.cells #[] 28)
      obtain ⟨V14f, eV14f⟩ : ∃ V, V1f.alloc (.cells #[] 28) = V := ⟨_, rfl⟩
      rw [eV14f] at xV14f cV14f
      have bV14f := bV1f.trans (cV14f.mono bV1f.size)
      obtain ⟨y1V14f, y2V14f, yfV14f⟩ := Hkeep.out V14f bV14f
      go_simp
      clear eV14f
      try go_wp2_with fail
      clear hHeld
      refine hK.out _ _ ?_ (fun hHeld => ?_)
      · (try dsimp only); (first | assumption | go_keep)
      clear hK K
      try simp only [Act.put, List.setIfInBounds_toArray, List.set_cons_zero, List.set_cons_succ]
      refine wpAnyH_ready (rs := [5]) (by kernel_rfl) (by simp) ?_
      refine (AllReadyH.cons (o := ⟨some 39, _, _, _, _, _⟩) (rs := []) rfl (fun K hK => ?_) AllReadyH.nil)
      go_simp
      try go_wp2_with fail
      clear hHeld
      refine hK.out _ _ ?_ (fun hHeld => ?_)
      · (try dsimp only); (first | assumption | go_keep)
      clear hK K
      try simp only [Act.put, List.setIfInBounds_toArray, List.set_cons_zero, List.set_cons_succ]
      refine wpAnyH_ready (rs := [6]) (by kernel_rfl) (by simp) ?_
      refine (AllReadyH.cons (o := ⟨some 40, _, _, _, _, _⟩) (rs := []) rfl (fun K hK => ?_) AllReadyH.nil)
      refine step_append_in rfl (.tmp 35) (.tmp 39) 54 rfl W0.heap.size 34 jf (.agg #[.int .i64 0, .int .i64 0, .slice none 0 0]) 3 40 Try.underlying54 Hif.out Hzf0.out Hzf1.out Hzf2.out rfl (by decide) (.slice (some ⟨W0.heap.size, 0, none⟩) 0 0) 0 [] (by simp [Act.eval]) (own_below (own_empty (B := W0.heap.size) (k := 3) xV1f bW0.size) cV14f) a L.length c (gflat L) (by simp [Act.eval]) Hnil.out (gflat_len L) (Hnews.out V14f bV14f) Hone.out (by unfold maxLen; omega) (by omega) bV14f.size ?_
      intro uV15f V15f oV15f gV15f
      rw [Nat.zero_add, List.nil_append] at oV15f
      obtain ⟨aV15f, kV15f, rfl⟩ := own_form oV15f
      have bV15f : Below W0.heap.size W0 V15f := bV14f.grown gV15f bV14f.size (fun k e => (World.ownsRow.lt (own_below (own_empty (B := W0.heap.size) (k := 3) xV1f bW0.size) cV14f) k e).1)
      obtain ⟨y1V15f, y2V15f, yfV15f⟩ := Hkeep.out V15f bV15f
      clear hHeld
      refine hK.out _ _ ?_ (fun hHeld => ?_)
      · (try dsimp only); (first | assumption | go_keep)
      clear hK K
      try simp only [Act.put, List.setIfInBounds_toArray, List.set_cons_zero, List.set_cons_succ]
      refine wpAnyH_ready (rs := [14]) (by kernel_rfl) (by simp) ?_
      refine (AllReadyH.cons (o := ⟨some 48, _, _, _, _, _⟩) (rs := []) rfl (fun K hK => ?_) AllReadyH.nil)
      refine step_append_in rfl (.tmp 46) (.tmp 47) 26 rfl W0.heap.size 28 jv (.agg #[.int .u8 0, .int .i64 0, .string ⟨#[]⟩]) 3 32 Try.underlying26 Hiv.out Hzv0.out Hzv1.out Hzv2.out rfl (by decide) (.slice (some ⟨V1f.heap.size, 0, none⟩) 0 0) 0 [] (by simp [Act.eval]) (World.ownsRow.kept (own_empty (B := W0.heap.size) (k := 3) xV14f bV1f.size) gV15f (own_apart (by decide) (own_below (own_empty (B := W0.heap.size) (k := 3) xV1f bW0.size) cV14f) (own_empty (B := W0.heap.size) (k := 3) xV14f bV1f.size))) xa s.length xc (flat s) (by simp [Act.eval]) Hxnil.out (flat_length s) (Hxnews.out V15f bV15f) (flat_one s) (by unfold maxLen; omega) (by omega) bV15f.size ?_
      intro uV16f V16f oV16f gV16f
      rw [Nat.zero_add, List.nil_append] at oV16f
      obtain ⟨aV16f, kV16f, rfl⟩ := own_form oV16f
      have bV16f : Below W0.heap.size W0 V16f := bV15f.grown gV16f bV15f.size (fun k e => (World.ownsRow.lt (World.ownsRow.kept (own_empty (B := W0.heap.size) (k := 3) xV14f bV1f.size) gV15f (own_apart (by decide) (own_below (own_empty (B := W0.heap.size) (k := 3) xV1f bW0.size) cV14f) (own_empty (B := W0.heap.size) (k := 3) xV14f bV1f.size))) k e).1)
      obtain ⟨y1V16f, y2V16f, yfV16f⟩ := Hkeep.out V16f bV16f
      clear hHeld
      refine hK.out _ _ ?_ (fun hHeld => ?_)
      · (try dsimp only); (first | assumption | go_keep)
      clear hK K
      try simp only [Act.put, List.setIfInBounds_toArray, List.set_cons_zero, List.set_cons_succ]
      refine wpAnyH_take (i := 15) (oi := ⟨some 49, _, _, _, _, _⟩) (v := ?vf17) rfl (by kernel_rfl) (by kernel_rfl) (by kernel_rfl) (fun _ _ _ h => h) (Or.inl ⟨by rfl, ?hf17⟩) (by assumption) ?rf17
      case hf17 => (intro w hSw; (try dsimp only at hSw); (first | (go_simp; done) | (go_simp; with_reducible rfl)))
      try simp only [Act.put, List.setIfInBounds_toArray, List.set_cons_zero, List.set_cons_succ]
      refine wpAnyH_ready (rs := [16]) (by kernel_rfl) (by simp) ?_
      refine (AllReadyH.cons (o := ⟨some 50, _, _, _, _, _⟩) (rs := []) rfl (fun K hK => ?_) AllReadyH.nil)
      have xV17f := heap_new V16f (.cells #[.int .i64 (last + 1), .int .i64 t, .slice aV16f s.length kV16f] 34)
      have cV17f := (Below.refl V16f.heap.size V16f).alloc (Nat.le_refl _) (.cells #[.int .i64 (last + 1), .int .i64 t, .slice aV16f s.length kV16f] 34)
      obtain ⟨V17f, eV17f⟩ : ∃ V, V16f.alloc (.cells #[.int .i64 (last + 1), .int .i64 t, .slice aV16f s.length kV16f] 34) = V := ⟨_, rfl⟩
      rw [eV17f] at xV17f cV17f
      have bV17f := bV16f.trans (cV17f.mono bV16f.size)
      obtain ⟨y1V17f, y2V17f, yfV17f⟩ := Hkeep.out V17f bV17f
      go_simp
      clear eV17f
      try go_wp2_with fail
      clear hHeld
      refine hK.out _ _ ?_ (fun hHeld => ?_)
      · (try dsimp only); (first | assumption | go_keep)
      clear hK K
      try simp only [Act.put, List.setIfInBounds_toArray, List.set_cons_zero, List.set_cons_succ]
      refine wpAnyH_ready (rs := [17]) (by kernel_rfl) (by simp) ?_
      refine (AllReadyH.cons (o := ⟨some 51, _, _, _, _, _⟩) (rs := []) rfl (fun K hK => ?_) AllReadyH.nil)
      refine step_append_in rfl (.tmp 40) (.tmp 50) 54 rfl W0.heap.size 34 jf (.agg #[.int .i64 0, .int .i64 0, .slice none 0 0]) 3 40 Try.underlying54 Hif.out Hzf0.out Hzf1.out Hzf2.out rfl (by decide) (.slice aV15f L.length kV15f) L.length (gflat L) (by simp [Act.eval]) (own_below (World.ownsRow.kept oV15f gV16f (own_apart (by decide) (World.ownsRow.kept (own_empty (B := W0.heap.size) (k := 3) xV14f bV1f.size) gV15f (own_apart (by decide) (own_below (own_empty (B := W0.heap.size) (k := 3) xV1f bW0.size) cV14f) (own_empty (B := W0.heap.size) (k := 3) xV14f bV1f.size))) oV15f)) cV17f) (some ⟨V16f.heap.size, 0, none⟩) 1 1 [.int .i64 (last + 1), .int .i64 t, .slice aV16f s.length kV16f] (by simp [Act.eval]) (by simp) (by rfl) (by intro q hq; cases hq; exact lit3 xV17f) (by simp [Value.oneCell']) (by unfold maxLen; omega) (by omega) bV17f.size ?_
      intro uV18f V18f oV18f gV18f
      obtain ⟨aV18f, kV18f, rfl⟩ := own_form oV18f
      have bV18f : Below W0.heap.size W0 V18f := bV17f.grown gV18f bV17f.size (fun k e => (World.ownsRow.lt (own_below (World.ownsRow.kept oV15f gV16f (own_apart (by decide) (World.ownsRow.kept (own_empty (B := W0.heap.size) (k := 3) xV14f bV1f.size) gV15f (own_apart (by decide) (own_below (own_empty (B := W0.heap.size) (k := 3) xV1f bW0.size) cV14f) (own_empty (B := W0.heap.size) (k := 3) xV14f bV1f.size))) oV15f)) cV17f) k e).1)
      obtain ⟨y1V18f, y2V18f, yfV18f⟩ := Hkeep.out V18f bV18f
      clear hHeld
      refine hK.out _ _ ?_ (fun hHeld => ?_)
      · (try dsimp only); (first | assumption | go_keep)
      clear hK K
      try simp only [Act.put, List.setIfInBounds_toArray, List.set_cons_zero, List.set_cons_succ]
      refine wpAnyH_take (i := 18) (oi := ⟨some 52, _, _, _, _, _⟩) (v := ?vf18) rfl (by kernel_rfl) (by kernel_rfl) (by kernel_rfl) (fun _ _ _ h => h) (Or.inl ⟨by rfl, ?hf18⟩) (by assumption) ?rf18
      case hf18 => (intro w hSw; (try dsimp only at hSw); (first | (go_simp; done) | (go_simp; with_reducible rfl)))
      try simp only [Act.put, List.setIfInBounds_toArray, List.set_cons_zero, List.set_cons_succ]
      refine wpAnyH_take (i := 19) (oi := ⟨some 53, _, _, _, _, _⟩) (v := ?vf19) rfl (by kernel_rfl) (by kernel_rfl) (by kernel_rfl) (fun _ _ _ h => h) (Or.inl ⟨by rfl, ?hf19⟩) (by assumption) ?rf19
      case hf19 => (intro w hSw; (try dsimp only at hSw); (first | (go_simp; done) | (go_simp; with_reducible rfl)))
      try simp only [Act.put, List.setIfInBounds_toArray, List.set_cons_zero, List.set_cons_succ]
      refine wpAnyH_ready (rs := [20]) (by kernel_rfl) (by simp) ?_
      refine (AllReadyH.cons (o := ⟨none, _, _, _, _, _⟩) (rs := []) rfl (fun K hK => ?_) AllReadyH.nil)
      have HF := hide (HR.out V18f bV18f _ _ _ _ oV18f (World.ownsRow.kept (own_below oV16f cV17f) gV18f (own_apart (by decide) (own_below (World.ownsRow.kept oV15f gV16f (own_apart (by decide) (World.ownsRow.kept (own_empty (B := W0.heap.size) (k := 3) xV14f bV1f.size) gV15f (own_apart (by decide) (own_below (own_empty (B := W0.heap.size) (k := 3) xV1f bW0.size) cV14f) (own_empty (B := W0.heap.size) (k := 3) xV14f bV1f.size))) oV15f)) cV17f) (own_below oV16f cV17f))))
      have q1 : (World.setCell V18f ⟨r, 2, none⟩ (.slice aV18f (L.length + 1) kV18f)).cell? ⟨r, 1, none⟩ = some (.int .i64 (last + 1)) := (cells3 HF.out.1.cells).2.1
      go_simp
      try go_wp2_with fail
      clear hHeld
      refine hK.out _ _ ?_ (fun hHeld => ?_)
      · (try dsimp only); (first | assumption | go_keep)
      clear hK K
      try simp only [Act.put, List.setIfInBounds_toArray, List.set_cons_zero, List.set_cons_succ]
      refine wpAnyH_done (by kernel_rfl) ?_ _
      refine NoPanic.normal ?_
      clear hHeld
      go_wp2
      refine bodyPost_ret (v := .tuple #[.int .i64 (last + 1), .bool true, .int .i64 0]) (by simp [results, Try.results26, go_sem, *]) rfl ?_
      exact ⟨_, _, _, rfl, HF.out.1, HF.out.2.1, HF.out.2.2⟩
  · go_simp
    try go_wp2_with fail
    clear hHeld
    refine hK.out _ _ ?_ (fun hHeld => ?_)
    · (try dsimp only); (first | assumption | go_keep)
    clear hK K
    try simp only [Act.put, List.setIfInBounds_toArray, List.set_cons_zero, List.set_cons_succ]
    refine wpAnyH_ready (rs := [1, 12]) (by kernel_rfl) (by simp) ?_
    refine (AllReadyH.cons (o := ⟨some 35, _, _, _, _, _⟩) (rs := [12]) rfl (fun K hK => ?_) (AllReadyH.cons (o := ⟨some 46, _, _, _, _, _⟩) (rs := []) rfl (fun K hK => ?_) AllReadyH.nil))
    · have xV20f := heap_new W0 (.cells #[] 34)
      have cV20f := (Below.refl W0.heap.size W0).alloc (Nat.le_refl _) (.cells #[] 34)
      obtain ⟨V20f, eV20f⟩ : ∃ V, W0.alloc (.cells #[] 34) = V := ⟨_, rfl⟩
      rw [eV20f] at xV20f cV20f
      have bV20f := bW0.trans (cV20f.mono bW0.size)
      obtain ⟨y1V20f, y2V20f, yfV20f⟩ := Hkeep.out V20f bV20f
      go_simp
      clear eV20f
      try go_wp2_with fail
      clear hHeld
      refine hK.out _ _ ?_ (fun hHeld => ?_)
      · (try dsimp only); (first | assumption | go_keep)
      clear hK K
      try simp only [Act.put, List.setIfInBounds_toArray, List.set_cons_zero, List.set_cons_succ]
      refine wpAnyH_ready (rs := [6, 12]) (by kernel_rfl) (by simp) ?_
      refine (AllReadyH.cons (o := ⟨some 40, _, _, _, _, _⟩) (rs := [12]) rfl (fun K hK => ?_) (AllReadyH.cons (o := ⟨some 46, _, _, _, _, _⟩) (rs := []) rfl (fun K hK => ?_) AllReadyH.nil))
      · refine step_append_in rfl (.tmp 35) (.tmp 39) 54 rfl W0.heap.size 34 jf (.agg #[.int .i64 0, .int .i64 0, .slice none 0 0]) 3 40 Try.underlying54 Hif.out Hzf0.out Hzf1.out Hzf2.out rfl (by decide) (.slice (some ⟨W0.heap.size, 0, none⟩) 0 0) 0 [] (by simp [Act.eval]) (own_empty (B := W0.heap.size) (k := 3) xV20f bW0.size) a L.length c (gflat L) (by simp [Act.eval]) Hnil.out (gflat_len L) (Hnews.out V20f bV20f) Hone.out (by unfold maxLen; omega) (by omega) bV20f.size ?_
        intro uV21f V21f oV21f gV21f
        rw [Nat.zero_add, List.nil_append] at oV21f
        obtain ⟨aV21f, kV21f, rfl⟩ := own_form oV21f
        have bV21f : Below W0.heap.size W0 V21f := bV20f.grown gV21f bV20f.size (fun k e => (World.ownsRow.lt (own_empty (B := W0.heap.size) (k := 3) xV20f bW0.size) k e).1)
        obtain ⟨y1V21f, y2V21f, yfV21f⟩ := Hkeep.out V21f bV21f
        clear hHeld
        refine hK.out _ _ ?_ (fun hHeld => ?_)
        · (try dsimp only); (first | assumption | go_keep)
        clear hK K
        try simp only [Act.put, List.setIfInBounds_toArray, List.set_cons_zero, List.set_cons_succ]
        refine wpAnyH_ready (rs := [12]) (by kernel_rfl) (by simp) ?_
        refine (AllReadyH.cons (o := ⟨some 46, _, _, _, _, _⟩) (rs := []) rfl (fun K hK => ?_) AllReadyH.nil)
        have xV22f := heap_new V21f (.cells #[] 28)
        have cV22f := (Below.refl V21f.heap.size V21f).alloc (Nat.le_refl _) (.cells #[] 28)
        obtain ⟨V22f, eV22f⟩ : ∃ V, V21f.alloc (.cells #[] 28) = V := ⟨_, rfl⟩
        rw [eV22f] at xV22f cV22f
        have bV22f := bV21f.trans (cV22f.mono bV21f.size)
        obtain ⟨y1V22f, y2V22f, yfV22f⟩ := Hkeep.out V22f bV22f
        go_simp
        clear eV22f
        try go_wp2_with fail
        clear hHeld
        refine hK.out _ _ ?_ (fun hHeld => ?_)
        · (try dsimp only); (first | assumption | go_keep)
        clear hK K
        try simp only [Act.put, List.setIfInBounds_toArray, List.set_cons_zero, List.set_cons_succ]
        refine wpAnyH_ready (rs := [14]) (by kernel_rfl) (by simp) ?_
        refine (AllReadyH.cons (o := ⟨some 48, _, _, _, _, _⟩) (rs := []) rfl (fun K hK => ?_) AllReadyH.nil)
        refine step_append_in rfl (.tmp 46) (.tmp 47) 26 rfl W0.heap.size 28 jv (.agg #[.int .u8 0, .int .i64 0, .string ⟨#[]⟩]) 3 32 Try.underlying26 Hiv.out Hzv0.out Hzv1.out Hzv2.out rfl (by decide) (.slice (some ⟨V21f.heap.size, 0, none⟩) 0 0) 0 [] (by simp [Act.eval]) (own_empty (B := W0.heap.size) (k := 3) xV22f bV21f.size) xa s.length xc (flat s) (by simp [Act.eval]) Hxnil.out (flat_length s) (Hxnews.out V22f bV22f) (flat_one s) (by unfold maxLen; omega) (by omega) bV22f.size ?_
        intro uV23f V23f oV23f gV23f
        rw [Nat.zero_add, List.nil_append] at oV23f
        obtain ⟨aV23f, kV23f, rfl⟩ := own_form oV23f
        have bV23f : Below W0.heap.size W0 V23f := bV22f.grown gV23f bV22f.size (fun k e => (World.ownsRow.lt (own_empty (B := W0.heap.size) (k := 3) xV22f bV21f.size) k e).1)
        obtain ⟨y1V23f, y2V23f, yfV23f⟩ := Hkeep.out V23f bV23f
        clear hHeld
        refine hK.out _ _ ?_ (fun hHeld => ?_)
        · (try dsimp only); (first | assumption | go_keep)
        clear hK K
        try simp only [Act.put, List.setIfInBounds_toArray, List.set_cons_zero, List.set_cons_succ]
        refine wpAnyH_take (i := 15) (oi := ⟨some 49, _, _, _, _, _⟩) (v := ?vf20) rfl (by kernel_rfl) (by kernel_rfl) (by kernel_rfl) (fun _ _ _ h => h) (Or.inl ⟨by rfl, ?hf20⟩) (by assumption) ?rf20
        case hf20 => (intro w hSw; (try dsimp only at hSw); (first | (go_simp; done) | (go_simp; with_reducible rfl)))
        try simp only [Act.put, List.setIfInBounds_toArray, List.set_cons_zero, List.set_cons_succ]
        refine wpAnyH_ready (rs := [16]) (by kernel_rfl) (by simp) ?_
        refine (AllReadyH.cons (o := ⟨some 50, _, _, _, _, _⟩) (rs := []) rfl (fun K hK => ?_) AllReadyH.nil)
        have xV24f := heap_new V23f (.cells #[.int .i64 (last + 1), .int .i64 t, .slice aV23f s.length kV23f] 34)
        have cV24f := (Below.refl V23f.heap.size V23f).alloc (Nat.le_refl _) (.cells #[.int .i64 (last + 1), .int .i64 t, .slice aV23f s.length kV23f] 34)
        obtain ⟨V24f, eV24f⟩ : ∃ V, V23f.alloc (.cells #[.int .i64 (last + 1), .int .i64 t, .slice aV23f s.length kV23f] 34) = V := ⟨_, rfl⟩
        rw [eV24f] at xV24f cV24f
        have bV24f := bV23f.trans (cV24f.mono bV23f.size)
        obtain ⟨y1V24f, y2V24f, yfV24f⟩ := Hkeep.out V24f bV24f
        go_simp
        clear eV24f
        try go_wp2_with fail
        clear hHeld
        refine hK.out _ _ ?_ (fun hHeld => ?_)
        · (try dsimp only); (first | assumption | go_keep)
        clear hK K
        try simp only [Act.put, List.setIfInBounds_toArray, List.set_cons_zero, List.set_cons_succ]
        refine wpAnyH_ready (rs := [17]) (by kernel_rfl) (by simp) ?_
        refine (AllReadyH.cons (o := ⟨some 51, _, _, _, _, _⟩) (rs := []) rfl (fun K hK => ?_) AllReadyH.nil)
        refine step_append_in rfl (.tmp 40) (.tmp 50) 54 rfl W0.heap.size 34 jf (.agg #[.int .i64 0, .int .i64 0, .slice none 0 0]) 3 40 Try.underlying54 Hif.out Hzf0.out Hzf1.out Hzf2.out rfl (by decide) (.slice aV21f L.length kV21f) L.length (gflat L) (by simp [Act.eval]) (own_below (World.ownsRow.kept (own_below oV21f cV22f) gV23f (own_apart (by decide) (own_empty (B := W0.heap.size) (k := 3) xV22f bV21f.size) (own_below oV21f cV22f))) cV24f) (some ⟨V23f.heap.size, 0, none⟩) 1 1 [.int .i64 (last + 1), .int .i64 t, .slice aV23f s.length kV23f] (by simp [Act.eval]) (by simp) (by rfl) (by intro q hq; cases hq; exact lit3 xV24f) (by simp [Value.oneCell']) (by unfold maxLen; omega) (by omega) bV24f.size ?_
        intro uV25f V25f oV25f gV25f
        obtain ⟨aV25f, kV25f, rfl⟩ := own_form oV25f
        have bV25f : Below W0.heap.size W0 V25f := bV24f.grown gV25f bV24f.size (fun k e => (World.ownsRow.lt (own_below (World.ownsRow.kept (own_below oV21f cV22f) gV23f (own_apart (by decide) (own_empty (B := W0.heap.size) (k := 3) xV22f bV21f.size) (own_below oV21f cV22f))) cV24f) k e).1)
        obtain ⟨y1V25f, y2V25f, yfV25f⟩ := Hkeep.out V25f bV25f
        clear hHeld
        refine hK.out _ _ ?_ (fun hHeld => ?_)
        · (try dsimp only); (first | assumption | go_keep)
        clear hK K
        try simp only [Act.put, List.setIfInBounds_toArray, List.set_cons_zero, List.set_cons_succ]
        refine wpAnyH_take (i := 18) (oi := ⟨some 52, _, _, _, _, _⟩) (v := ?vf21) rfl (by kernel_rfl) (by kernel_rfl) (by kernel_rfl) (fun _ _ _ h => h) (Or.inl ⟨by rfl, ?hf21⟩) (by assumption) ?rf21
        case hf21 => (intro w hSw; (try dsimp only at hSw); (first | (go_simp; done) | (go_simp; with_reducible rfl)))
        try simp only [Act.put, List.setIfInBounds_toArray, List.set_cons_zero, List.set_cons_succ]
        refine wpAnyH_take (i := 19) (oi := ⟨some 53, _, _, _, _, _⟩) (v := ?vf22) rfl (by kernel_rfl) (by kernel_rfl) (by kernel_rfl) (fun _ _ _ h => h) (Or.inl ⟨by rfl, ?hf22⟩) (by assumption) ?rf22
        case hf22 => (intro w hSw; (try dsimp only at hSw); (first | (go_simp; done) | (go_simp; with_reducible rfl)))
        try simp only [Act.put, List.setIfInBounds_toArray, List.set_cons_zero, List.set_cons_succ]
        refine wpAnyH_ready (rs := [20]) (by kernel_rfl) (by simp) ?_
        refine (AllReadyH.cons (o := ⟨none, _, _, _, _, _⟩) (rs := []) rfl (fun K hK => ?_) AllReadyH.nil)
        have HF := hide (HR.out V25f bV25f _ _ _ _ oV25f (World.ownsRow.kept (own_below oV23f cV24f) gV25f (own_apart (by decide) (own_below (World.ownsRow.kept (own_below oV21f cV22f) gV23f (own_apart (by decide) (own_empty (B := W0.heap.size) (k := 3) xV22f bV21f.size) (own_below oV21f cV22f))) cV24f) (own_below oV23f cV24f))))
        have q1 : (World.setCell V25f ⟨r, 2, none⟩ (.slice aV25f (L.length + 1) kV25f)).cell? ⟨r, 1, none⟩ = some (.int .i64 (last + 1)) := (cells3 HF.out.1.cells).2.1
        go_simp
        try go_wp2_with fail
        clear hHeld
        refine hK.out _ _ ?_ (fun hHeld => ?_)
        · (try dsimp only); (first | assumption | go_keep)
        clear hK K
        try simp only [Act.put, List.setIfInBounds_toArray, List.set_cons_zero, List.set_cons_succ]
        refine wpAnyH_done (by kernel_rfl) ?_ _
        refine NoPanic.normal ?_
        clear hHeld
        go_wp2
        refine bodyPost_ret (v := .tuple #[.int .i64 (last + 1), .bool true, .int .i64 0]) (by simp [results, Try.results26, go_sem, *]) rfl ?_
        exact ⟨_, _, _, rfl, HF.out.1, HF.out.2.1, HF.out.2.2⟩
      · have xV27f := heap_new V20f (.cells #[] 28)
        have cV27f := (Below.refl V20f.heap.size V20f).alloc (Nat.le_refl _) (.cells #[] 28)
        obtain ⟨V27f, eV27f⟩ : ∃ V, V20f.alloc (.cells #[] 28) = V := ⟨_, rfl⟩
        rw [eV27f] at xV27f cV27f
        have bV27f := bV20f.trans (cV27f.mono bV20f.size)
        obtain ⟨y1V27f, y2V27f, yfV27f⟩ := Hkeep.out V27f bV27f
        go_simp
        clear eV27f
        try go_wp2_with fail
        clear hHeld
        refine hK.out _ _ ?_ (fun hHeld => ?_)
        · (try dsimp only); (first | assumption | go_keep)
        clear hK K
        try simp only [Act.put, List.setIfInBounds_toArray, List.set_cons_zero, List.set_cons_succ]
        refine wpAnyH_ready (rs := [6]) (by kernel_rfl) (by simp) ?_
        refine (AllReadyH.cons (o := ⟨some 40, _, _, _, _, _⟩) (rs := []) rfl (fun K hK => ?_) AllReadyH.nil)
        refine step_append_in rfl (.tmp 35) (.tmp 39) 54 rfl W0.heap.size 34 jf (.agg #[.int .i64 0, .int .i64 0, .slice none 0 0]) 3 40 Try.underlying54 Hif.out Hzf0.out Hzf1.out Hzf2.out rfl (by decide) (.slice (some ⟨W0.heap.size, 0, none⟩) 0 0) 0 [] (by simp [Act.eval]) (own_below (own_empty (B := W0.heap.size) (k := 3) xV20f bW0.size) cV27f) a L.length c (gflat L) (by simp [Act.eval]) Hnil.out (gflat_len L) (Hnews.out V27f bV27f) Hone.out (by unfold maxLen; omega) (by omega) bV27f.size ?_
        intro uV28f V28f oV28f gV28f
        rw [Nat.zero_add, List.nil_append] at oV28f
        obtain ⟨aV28f, kV28f, rfl⟩ := own_form oV28f
        have bV28f : Below W0.heap.size W0 V28f := bV27f.grown gV28f bV27f.size (fun k e => (World.ownsRow.lt (own_below (own_empty (B := W0.heap.size) (k := 3) xV20f bW0.size) cV27f) k e).1)
        obtain ⟨y1V28f, y2V28f, yfV28f⟩ := Hkeep.out V28f bV28f
        clear hHeld
        refine hK.out _ _ ?_ (fun hHeld => ?_)
        · (try dsimp only); (first | assumption | go_keep)
        clear hK K
        try simp only [Act.put, List.setIfInBounds_toArray, List.set_cons_zero, List.set_cons_succ]
        refine wpAnyH_ready (rs := [14]) (by kernel_rfl) (by simp) ?_
        refine (AllReadyH.cons (o := ⟨some 48, _, _, _, _, _⟩) (rs := []) rfl (fun K hK => ?_) AllReadyH.nil)
        refine step_append_in rfl (.tmp 46) (.tmp 47) 26 rfl W0.heap.size 28 jv (.agg #[.int .u8 0, .int .i64 0, .string ⟨#[]⟩]) 3 32 Try.underlying26 Hiv.out Hzv0.out Hzv1.out Hzv2.out rfl (by decide) (.slice (some ⟨V20f.heap.size, 0, none⟩) 0 0) 0 [] (by simp [Act.eval]) (World.ownsRow.kept (own_empty (B := W0.heap.size) (k := 3) xV27f bV20f.size) gV28f (own_apart (by decide) (own_below (own_empty (B := W0.heap.size) (k := 3) xV20f bW0.size) cV27f) (own_empty (B := W0.heap.size) (k := 3) xV27f bV20f.size))) xa s.length xc (flat s) (by simp [Act.eval]) Hxnil.out (flat_length s) (Hxnews.out V28f bV28f) (flat_one s) (by unfold maxLen; omega) (by omega) bV28f.size ?_
        intro uV29f V29f oV29f gV29f
        rw [Nat.zero_add, List.nil_append] at oV29f
        obtain ⟨aV29f, kV29f, rfl⟩ := own_form oV29f
        have bV29f : Below W0.heap.size W0 V29f := bV28f.grown gV29f bV28f.size (fun k e => (World.ownsRow.lt (World.ownsRow.kept (own_empty (B := W0.heap.size) (k := 3) xV27f bV20f.size) gV28f (own_apart (by decide) (own_below (own_empty (B := W0.heap.size) (k := 3) xV20f bW0.size) cV27f) (own_empty (B := W0.heap.size) (k := 3) xV27f bV20f.size))) k e).1)
        obtain ⟨y1V29f, y2V29f, yfV29f⟩ := Hkeep.out V29f bV29f
        clear hHeld
        refine hK.out _ _ ?_ (fun hHeld => ?_)
        · (try dsimp only); (first | assumption | go_keep)
        clear hK K
        try simp only [Act.put, List.setIfInBounds_toArray, List.set_cons_zero, List.set_cons_succ]
        refine wpAnyH_take (i := 15) (oi := ⟨some 49, _, _, _, _, _⟩) (v := ?vf23) rfl (by kernel_rfl) (by kernel_rfl) (by kernel_rfl) (fun _ _ _ h => h) (Or.inl ⟨by rfl, ?hf23⟩) (by assumption) ?rf23
        case hf23 => (intro w hSw; (try dsimp only at hSw); (first | (go_simp; done) | (go_simp; with_reducible rfl)))
        try simp only [Act.put, List.setIfInBounds_toArray, List.set_cons_zero, List.set_cons_succ]
        refine wpAnyH_ready (rs := [16]) (by kernel_rfl) (by simp) ?_
        refine (AllReadyH.cons (o := ⟨some 50, _, _, _, _, _⟩) (rs := []) rfl (fun K hK => ?_) AllReadyH.nil)
        have xV30f := heap_new V29f (.cells #[.int .i64 (last + 1), .int .i64 t, .slice aV29f s.length kV29f] 34)
        have cV30f := (Below.refl V29f.heap.size V29f).alloc (Nat.le_refl _) (.cells #[.int .i64 (last + 1), .int .i64 t, .slice aV29f s.length kV29f] 34)
        obtain ⟨V30f, eV30f⟩ : ∃ V, V29f.alloc (.cells #[.int .i64 (last + 1), .int .i64 t, .slice aV29f s.length kV29f] 34) = V := ⟨_, rfl⟩
        rw [eV30f] at xV30f cV30f
        have bV30f := bV29f.trans (cV30f.mono bV29f.size)
        obtain ⟨y1V30f, y2V30f, yfV30f⟩ := Hkeep.out V30f bV30f
        go_simp
        clear eV30f
        try go_wp2_with fail
        clear hHeld
        refine hK.out _ _ ?_ (fun hHeld => ?_)
        · (try dsimp only); (first | assumption | go_keep)
        clear hK K
        try simp only [Act.put, List.setIfInBounds_toArray, List.set_cons_zero, List.set_cons_succ]
        refine wpAnyH_ready (rs := [17]) (by kernel_rfl) (by simp) ?_
        refine (AllReadyH.cons (o := ⟨some 51, _, _, _, _, _⟩) (rs := []) rfl (fun K hK => ?_) AllReadyH.nil)
        refine step_append_in rfl (.tmp 40) (.tmp 50) 54 rfl W0.heap.size 34 jf (.agg #[.int .i64 0, .int .i64 0, .slice none 0 0]) 3 40 Try.underlying54 Hif.out Hzf0.out Hzf1.out Hzf2.out rfl (by decide) (.slice aV28f L.length kV28f) L.length (gflat L) (by simp [Act.eval]) (own_below (World.ownsRow.kept oV28f gV29f (own_apart (by decide) (World.ownsRow.kept (own_empty (B := W0.heap.size) (k := 3) xV27f bV20f.size) gV28f (own_apart (by decide) (own_below (own_empty (B := W0.heap.size) (k := 3) xV20f bW0.size) cV27f) (own_empty (B := W0.heap.size) (k := 3) xV27f bV20f.size))) oV28f)) cV30f) (some ⟨V29f.heap.size, 0, none⟩) 1 1 [.int .i64 (last + 1), .int .i64 t, .slice aV29f s.length kV29f] (by simp [Act.eval]) (by simp) (by rfl) (by intro q hq; cases hq; exact lit3 xV30f) (by simp [Value.oneCell']) (by unfold maxLen; omega) (by omega) bV30f.size ?_
        intro uV31f V31f oV31f gV31f
        obtain ⟨aV31f, kV31f, rfl⟩ := own_form oV31f
        have bV31f : Below W0.heap.size W0 V31f := bV30f.grown gV31f bV30f.size (fun k e => (World.ownsRow.lt (own_below (World.ownsRow.kept oV28f gV29f (own_apart (by decide) (World.ownsRow.kept (own_empty (B := W0.heap.size) (k := 3) xV27f bV20f.size) gV28f (own_apart (by decide) (own_below (own_empty (B := W0.heap.size) (k := 3) xV20f bW0.size) cV27f) (own_empty (B := W0.heap.size) (k := 3) xV27f bV20f.size))) oV28f)) cV30f) k e).1)
        obtain ⟨y1V31f, y2V31f, yfV31f⟩ := Hkeep.out V31f bV31f
        clear hHeld
        refine hK.out _ _ ?_ (fun hHeld => ?_)
        · (try dsimp only); (first | assumption | go_keep)
        clear hK K
        try simp only [Act.put, List.setIfInBounds_toArray, List.set_cons_zero, List.set_cons_succ]
        refine wpAnyH_take (i := 18) (oi := ⟨some 52, _, _, _, _, _⟩) (v := ?vf24) rfl (by kernel_rfl) (by kernel_rfl) (by kernel_rfl) (fun _ _ _ h => h) (Or.inl ⟨by rfl, ?hf24⟩) (by assumption) ?rf24
        case hf24 => (intro w hSw; (try dsimp only at hSw); (first | (go_simp; done) | (go_simp; with_reducible rfl)))
        try simp only [Act.put, List.setIfInBounds_toArray, List.set_cons_zero, List.set_cons_succ]
        refine wpAnyH_take (i := 19) (oi := ⟨some 53, _, _, _, _, _⟩) (v := ?vf25) rfl (by kernel_rfl) (by kernel_rfl) (by kernel_rfl) (fun _ _ _ h => h) (Or.inl ⟨by rfl, ?hf25⟩) (by assumption) ?rf25
        case hf25 => (intro w hSw; (try dsimp only at hSw); (first | (go_simp; done) | (go_simp; with_reducible rfl)))
        try simp only [Act.put, List.setIfInBounds_toArray, List.set_cons_zero, List.set_cons_succ]
        refine wpAnyH_ready (rs := [20]) (by kernel_rfl) (by simp) ?_
        refine (AllReadyH.cons (o := ⟨none, _, _, _, _, _⟩) (rs := []) rfl (fun K hK => ?_) AllReadyH.nil)
        have HF := hide (HR.out V31f bV31f _ _ _ _ oV31f (World.ownsRow.kept (own_below oV29f cV30f) gV31f (own_apart (by decide) (own_below (World.ownsRow.kept oV28f gV29f (own_apart (by decide) (World.ownsRow.kept (own_empty (B := W0.heap.size) (k := 3) xV27f bV20f.size) gV28f (own_apart (by decide) (own_below (own_empty (B := W0.heap.size) (k := 3) xV20f bW0.size) cV27f) (own_empty (B := W0.heap.size) (k := 3) xV27f bV20f.size))) oV28f)) cV30f) (own_below oV29f cV30f))))
        have q1 : (World.setCell V31f ⟨r, 2, none⟩ (.slice aV31f (L.length + 1) kV31f)).cell? ⟨r, 1, none⟩ = some (.int .i64 (last + 1)) := (cells3 HF.out.1.cells).2.1
        go_simp
        try go_wp2_with fail
        clear hHeld
        refine hK.out _ _ ?_ (fun hHeld => ?_)
        · (try dsimp only); (first | assumption | go_keep)
        clear hK K
        try simp only [Act.put, List.setIfInBounds_toArray, List.set_cons_zero, List.set_cons_succ]
        refine wpAnyH_done (by kernel_rfl) ?_ _
        refine NoPanic.normal ?_
        clear hHeld
        go_wp2
        refine bodyPost_ret (v := .tuple #[.int .i64 (last + 1), .bool true, .int .i64 0]) (by simp [results, Try.results26, go_sem, *]) rfl ?_
        exact ⟨_, _, _, rfl, HF.out.1, HF.out.2.1, HF.out.2.2⟩
    · have xV33f := heap_new W0 (.cells #[] 28)
      have cV33f := (Below.refl W0.heap.size W0).alloc (Nat.le_refl _) (.cells #[] 28)
      obtain ⟨V33f, eV33f⟩ : ∃ V, W0.alloc (.cells #[] 28) = V := ⟨_, rfl⟩
      rw [eV33f] at xV33f cV33f
      have bV33f := bW0.trans (cV33f.mono bW0.size)
      obtain ⟨y1V33f, y2V33f, yfV33f⟩ := Hkeep.out V33f bV33f
      go_simp
      clear eV33f
      try go_wp2_with fail
      clear hHeld
      refine hK.out _ _ ?_ (fun hHeld => ?_)
      · (try dsimp only); (first | assumption | go_keep)
      clear hK K
      try simp only [Act.put, List.setIfInBounds_toArray, List.set_cons_zero, List.set_cons_succ]
      refine wpAnyH_ready (rs := [1]) (by kernel_rfl) (by simp) ?_
      refine (AllReadyH.cons (o := ⟨some 35, _, _, _, _, _⟩) (rs := []) rfl (fun K hK => ?_) AllReadyH.nil)
      have xV34f := heap_new V33f (.cells #[] 34)
      have cV34f := (Below.refl V33f.heap.size V33f).alloc (Nat.le_refl _) (.cells #[] 34)
      obtain ⟨V34f, eV34f⟩ : ∃ V, V33f.alloc (.cells #[] 34) = V := ⟨_, rfl⟩
      rw [eV34f] at xV34f cV34f
      have bV34f := bV33f.trans (cV34f.mono bV33f.size)
      obtain ⟨y1V34f, y2V34f, yfV34f⟩ := Hkeep.out V34f bV34f
      go_simp
      clear eV34f
      try go_wp2_with fail
      clear hHeld
      refine hK.out _ _ ?_ (fun hHeld => ?_)
      · (try dsimp only); (first | assumption | go_keep)
      clear hK K
      try simp only [Act.put, List.setIfInBounds_toArray, List.set_cons_zero, List.set_cons_succ]
      refine wpAnyH_ready (rs := [6]) (by kernel_rfl) (by simp) ?_
      refine (AllReadyH.cons (o := ⟨some 40, _, _, _, _, _⟩) (rs := []) rfl (fun K hK => ?_) AllReadyH.nil)
      refine step_append_in rfl (.tmp 35) (.tmp 39) 54 rfl W0.heap.size 34 jf (.agg #[.int .i64 0, .int .i64 0, .slice none 0 0]) 3 40 Try.underlying54 Hif.out Hzf0.out Hzf1.out Hzf2.out rfl (by decide) (.slice (some ⟨V33f.heap.size, 0, none⟩) 0 0) 0 [] (by simp [Act.eval]) (own_empty (B := W0.heap.size) (k := 3) xV34f bV33f.size) a L.length c (gflat L) (by simp [Act.eval]) Hnil.out (gflat_len L) (Hnews.out V34f bV34f) Hone.out (by unfold maxLen; omega) (by omega) bV34f.size ?_
      intro uV35f V35f oV35f gV35f
      rw [Nat.zero_add, List.nil_append] at oV35f
      obtain ⟨aV35f, kV35f, rfl⟩ := own_form oV35f
      have bV35f : Below W0.heap.size W0 V35f := bV34f.grown gV35f bV34f.size (fun k e => (World.ownsRow.lt (own_empty (B := W0.heap.size) (k := 3) xV34f bV33f.size) k e).1)
      obtain ⟨y1V35f, y2V35f, yfV35f⟩ := Hkeep.out V35f bV35f
      clear hHeld
      refine hK.out _ _ ?_ (fun hHeld => ?_)
      · (try dsimp only); (first | assumption | go_keep)
      clear hK K
      try simp only [Act.put, List.setIfInBounds_toArray, List.set_cons_zero, List.set_cons_succ]
      refine wpAnyH_ready (rs := [14]) (by kernel_rfl) (by simp) ?_
      refine (AllReadyH.cons (o := ⟨some 48, _, _, _, _, _⟩) (rs := []) rfl (fun K hK => ?_) AllReadyH.nil)
      refine step_append_in rfl (.tmp 46) (.tmp 47) 26 rfl W0.heap.size 28 jv (.agg #[.int .u8 0, .int .i64 0, .string ⟨#[]⟩]) 3 32 Try.underlying26 Hiv.out Hzv0.out Hzv1.out Hzv2.out rfl (by decide) (.slice (some ⟨W0.heap.size, 0, none⟩) 0 0) 0 [] (by simp [Act.eval]) (World.ownsRow.kept (own_below (own_empty (B := W0.heap.size) (k := 3) xV33f bW0.size) cV34f) gV35f (own_apart (by decide) (own_empty (B := W0.heap.size) (k := 3) xV34f bV33f.size) (own_below (own_empty (B := W0.heap.size) (k := 3) xV33f bW0.size) cV34f))) xa s.length xc (flat s) (by simp [Act.eval]) Hxnil.out (flat_length s) (Hxnews.out V35f bV35f) (flat_one s) (by unfold maxLen; omega) (by omega) bV35f.size ?_
      intro uV36f V36f oV36f gV36f
      rw [Nat.zero_add, List.nil_append] at oV36f
      obtain ⟨aV36f, kV36f, rfl⟩ := own_form oV36f
      have bV36f : Below W0.heap.size W0 V36f := bV35f.grown gV36f bV35f.size (fun k e => (World.ownsRow.lt (World.ownsRow.kept (own_below (own_empty (B := W0.heap.size) (k := 3) xV33f bW0.size) cV34f) gV35f (own_apart (by decide) (own_empty (B := W0.heap.size) (k := 3) xV34f bV33f.size) (own_below (own_empty (B := W0.heap.size) (k := 3) xV33f bW0.size) cV34f))) k e).1)
      obtain ⟨y1V36f, y2V36f, yfV36f⟩ := Hkeep.out V36f bV36f
      clear hHeld
      refine hK.out _ _ ?_ (fun hHeld => ?_)
      · (try dsimp only); (first | assumption | go_keep)
      clear hK K
      try simp only [Act.put, List.setIfInBounds_toArray, List.set_cons_zero, List.set_cons_succ]
      refine wpAnyH_take (i := 15) (oi := ⟨some 49, _, _, _, _, _⟩) (v := ?vf26) rfl (by kernel_rfl) (by kernel_rfl) (by kernel_rfl) (fun _ _ _ h => h) (Or.inl ⟨by rfl, ?hf26⟩) (by assumption) ?rf26
      case hf26 => (intro w hSw; (try dsimp only at hSw); (first | (go_simp; done) | (go_simp; with_reducible rfl)))
      try simp only [Act.put, List.setIfInBounds_toArray, List.set_cons_zero, List.set_cons_succ]
      refine wpAnyH_ready (rs := [16]) (by kernel_rfl) (by simp) ?_
      refine (AllReadyH.cons (o := ⟨some 50, _, _, _, _, _⟩) (rs := []) rfl (fun K hK => ?_) AllReadyH.nil)
      have xV37f := heap_new V36f (.cells #[.int .i64 (last + 1), .int .i64 t, .slice aV36f s.length kV36f] 34)
      have cV37f := (Below.refl V36f.heap.size V36f).alloc (Nat.le_refl _) (.cells #[.int .i64 (last + 1), .int .i64 t, .slice aV36f s.length kV36f] 34)
      obtain ⟨V37f, eV37f⟩ : ∃ V, V36f.alloc (.cells #[.int .i64 (last + 1), .int .i64 t, .slice aV36f s.length kV36f] 34) = V := ⟨_, rfl⟩
      rw [eV37f] at xV37f cV37f
      have bV37f := bV36f.trans (cV37f.mono bV36f.size)
      obtain ⟨y1V37f, y2V37f, yfV37f⟩ := Hkeep.out V37f bV37f
      go_simp
      clear eV37f
      try go_wp2_with fail
      clear hHeld
      refine hK.out _ _ ?_ (fun hHeld => ?_)
      · (try dsimp only); (first | assumption | go_keep)
      clear hK K
      try simp only [Act.put, List.setIfInBounds_toArray, List.set_cons_zero, List.set_cons_succ]
      refine wpAnyH_ready (rs := [17]) (by kernel_rfl) (by simp) ?_
      refine (AllReadyH.cons (o := ⟨some 51, _, _, _, _, _⟩) (rs := []) rfl (fun K hK => ?_) AllReadyH.nil)
      refine step_append_in rfl (.tmp 40) (.tmp 50) 54 rfl W0.heap.size 34 jf (.agg #[.int .i64 0, .int .i64 0, .slice none 0 0]) 3 40 Try.underlying54 Hif.out Hzf0.out Hzf1.out Hzf2.out rfl (by decide) (.slice aV35f L.length kV35f) L.length (gflat L) (by simp [Act.eval]) (own_below (World.ownsRow.kept oV35f gV36f (own_apart (by decide) (World.ownsRow.kept (own_below (own_empty (B := W0.heap.size) (k := 3) xV33f bW0.size) cV34f) gV35f (own_apart (by decide) (own_empty (B := W0.heap.size) (k := 3) xV34f bV33f.size) (own_below (own_empty (B := W0.heap.size) (k := 3) xV33f bW0.size) cV34f))) oV35f)) cV37f) (some ⟨V36f.heap.size, 0, none⟩) 1 1 [.int .i64 (last + 1), .int .i64 t, .slice aV36f s.length kV36f] (by simp [Act.eval]) (by simp) (by rfl) (by intro q hq; cases hq; exact lit3 xV37f) (by simp [Value.oneCell']) (by unfold maxLen; omega) (by omega) bV37f.size ?_
      intro uV38f V38f oV38f gV38f
      obtain ⟨aV38f, kV38f, rfl⟩ := own_form oV38f
      have bV38f : Below W0.heap.size W0 V38f := bV37f.grown gV38f bV37f.size (fun k e => (World.ownsRow.lt (own_below (World.ownsRow.kept oV35f gV36f (own_apart (by decide) (World.ownsRow.kept (own_below (own_empty (B := W0.heap.size) (k := 3) xV33f bW0.size) cV34f) gV35f (own_apart (by decide) (own_empty (B := W0.heap.size) (k := 3) xV34f bV33f.size) (own_below (own_empty (B := W0.heap.size) (k := 3) xV33f bW0.size) cV34f))) oV35f)) cV37f) k e).1)
      obtain ⟨y1V38f, y2V38f, yfV38f⟩ := Hkeep.out V38f bV38f
      clear hHeld
      refine hK.out _ _ ?_ (fun hHeld => ?_)
      · (try dsimp only); (first | assumption | go_keep)
      clear hK K
      try simp only [Act.put, List.setIfInBounds_toArray, List.set_cons_zero, List.set_cons_succ]
      refine wpAnyH_take (i := 18) (oi := ⟨some 52, _, _, _, _, _⟩) (v := ?vf27) rfl (by kernel_rfl) (by kernel_rfl) (by kernel_rfl) (fun _ _ _ h => h) (Or.inl ⟨by rfl, ?hf27⟩) (by assumption) ?rf27
      case hf27 => (intro w hSw; (try dsimp only at hSw); (first | (go_simp; done) | (go_simp; with_reducible rfl)))
      try simp only [Act.put, List.setIfInBounds_toArray, List.set_cons_zero, List.set_cons_succ]
      refine wpAnyH_take (i := 19) (oi := ⟨some 53, _, _, _, _, _⟩) (v := ?vf28) rfl (by kernel_rfl) (by kernel_rfl) (by kernel_rfl) (fun _ _ _ h => h) (Or.inl ⟨by rfl, ?hf28⟩) (by assumption) ?rf28
      case hf28 => (intro w hSw; (try dsimp only at hSw); (first | (go_simp; done) | (go_simp; with_reducible rfl)))
      try simp only [Act.put, List.setIfInBounds_toArray, List.set_cons_zero, List.set_cons_succ]
      refine wpAnyH_ready (rs := [20]) (by kernel_rfl) (by simp) ?_
      refine (AllReadyH.cons (o := ⟨none, _, _, _, _, _⟩) (rs := []) rfl (fun K hK => ?_) AllReadyH.nil)
      have HF := hide (HR.out V38f bV38f _ _ _ _ oV38f (World.ownsRow.kept (own_below oV36f cV37f) gV38f (own_apart (by decide) (own_below (World.ownsRow.kept oV35f gV36f (own_apart (by decide) (World.ownsRow.kept (own_below (own_empty (B := W0.heap.size) (k := 3) xV33f bW0.size) cV34f) gV35f (own_apart (by decide) (own_empty (B := W0.heap.size) (k := 3) xV34f bV33f.size) (own_below (own_empty (B := W0.heap.size) (k := 3) xV33f bW0.size) cV34f))) oV35f)) cV37f) (own_below oV36f cV37f))))
      have q1 : (World.setCell V38f ⟨r, 2, none⟩ (.slice aV38f (L.length + 1) kV38f)).cell? ⟨r, 1, none⟩ = some (.int .i64 (last + 1)) := (cells3 HF.out.1.cells).2.1
      go_simp
      try go_wp2_with fail
      clear hHeld
      refine hK.out _ _ ?_ (fun hHeld => ?_)
      · (try dsimp only); (first | assumption | go_keep)
      clear hK K
      try simp only [Act.put, List.setIfInBounds_toArray, List.set_cons_zero, List.set_cons_succ]
      refine wpAnyH_done (by kernel_rfl) ?_ _
      refine NoPanic.normal ?_
      clear hHeld
      go_wp2
      refine bodyPost_ret (v := .tuple #[.int .i64 (last + 1), .bool true, .int .i64 0]) (by simp [results, Try.results26, go_sem, *]) rfl ?_
      exact ⟨_, _, _, rfl, HF.out.1, HF.out.2.1, HF.out.2.2⟩
  · have xV40f := heap_new W0 (.cells #[] 28)
    have cV40f := (Below.refl W0.heap.size W0).alloc (Nat.le_refl _) (.cells #[] 28)
    obtain ⟨V40f, eV40f⟩ : ∃ V, W0.alloc (.cells #[] 28) = V := ⟨_, rfl⟩
    rw [eV40f] at xV40f cV40f
    have bV40f := bW0.trans (cV40f.mono bW0.size)
    obtain ⟨y1V40f, y2V40f, yfV40f⟩ := Hkeep.out V40f bV40f
    go_simp
    clear eV40f
    try go_wp2_with fail
    clear hHeld
    refine hK.out _ _ ?_ (fun hHeld => ?_)
    · (try dsimp only); (first | assumption | go_keep)
    clear hK K
    try simp only [Act.put, List.setIfInBounds_toArray, List.set_cons_zero, List.set_cons_succ]
    refine wpAnyH_ready (rs := [1, 5]) (by kernel_rfl) (by simp) ?_
    refine (AllReadyH.cons (o := ⟨some 35, _, _, _, _, _⟩) (rs := [5]) rfl (fun K hK => ?_) (AllReadyH.cons (o := ⟨some 39, _, _, _, _, _⟩) (rs := []) rfl (fun K hK => ?_) AllReadyH.nil))
    · have xV41f := heap_new V40f (.cells #[] 34)
      have cV41f := (Below.refl V40f.heap.size V40f).alloc (Nat.le_refl _) (.cells #[] 34)
      obtain ⟨V41f, eV41f⟩ : ∃ V, V40f.alloc (.cells #[] 34) = V := ⟨_, rfl⟩
      rw [eV41f] at xV41f cV41f
      have bV41f := bV40f.trans (cV41f.mono bV40f.size)
      obtain ⟨y1V41f, y2V41f, yfV41f⟩ := Hkeep.out V41f bV41f
      go_simp
      clear eV41f
      try go_wp2_with fail
      clear hHeld
      refine hK.out _ _ ?_ (fun hHeld => ?_)
      · (try dsimp only); (first | assumption | go_keep)
      clear hK K
      try simp only [Act.put, List.setIfInBounds_toArray, List.set_cons_zero, List.set_cons_succ]
      refine wpAnyH_ready (rs := [5]) (by kernel_rfl) (by simp) ?_
      refine (AllReadyH.cons (o := ⟨some 39, _, _, _, _, _⟩) (rs := []) rfl (fun K hK => ?_) AllReadyH.nil)
      go_simp
      try go_wp2_with fail
      clear hHeld
      refine hK.out _ _ ?_ (fun hHeld => ?_)
      · (try dsimp only); (first | assumption | go_keep)
      clear hK K
      try simp only [Act.put, List.setIfInBounds_toArray, List.set_cons_zero, List.set_cons_succ]
      refine wpAnyH_ready (rs := [6]) (by kernel_rfl) (by simp) ?_
      refine (AllReadyH.cons (o := ⟨some 40, _, _, _, _, _⟩) (rs := []) rfl (fun K hK => ?_) AllReadyH.nil)
      refine step_append_in rfl (.tmp 35) (.tmp 39) 54 rfl W0.heap.size 34 jf (.agg #[.int .i64 0, .int .i64 0, .slice none 0 0]) 3 40 Try.underlying54 Hif.out Hzf0.out Hzf1.out Hzf2.out rfl (by decide) (.slice (some ⟨V40f.heap.size, 0, none⟩) 0 0) 0 [] (by simp [Act.eval]) (own_empty (B := W0.heap.size) (k := 3) xV41f bV40f.size) a L.length c (gflat L) (by simp [Act.eval]) Hnil.out (gflat_len L) (Hnews.out V41f bV41f) Hone.out (by unfold maxLen; omega) (by omega) bV41f.size ?_
      intro uV42f V42f oV42f gV42f
      rw [Nat.zero_add, List.nil_append] at oV42f
      obtain ⟨aV42f, kV42f, rfl⟩ := own_form oV42f
      have bV42f : Below W0.heap.size W0 V42f := bV41f.grown gV42f bV41f.size (fun k e => (World.ownsRow.lt (own_empty (B := W0.heap.size) (k := 3) xV41f bV40f.size) k e).1)
      obtain ⟨y1V42f, y2V42f, yfV42f⟩ := Hkeep.out V42f bV42f
      clear hHeld
      refine hK.out _ _ ?_ (fun hHeld => ?_)
      · (try dsimp only); (first | assumption | go_keep)
      clear hK K
      try simp only [Act.put, List.setIfInBounds_toArray, List.set_cons_zero, List.set_cons_succ]
      refine wpAnyH_ready (rs := [14]) (by kernel_rfl) (by simp) ?_
      refine (AllReadyH.cons (o := ⟨some 48, _, _, _, _, _⟩) (rs := []) rfl (fun K hK => ?_) AllReadyH.nil)
      refine step_append_in rfl (.tmp 46) (.tmp 47) 26 rfl W0.heap.size 28 jv (.agg #[.int .u8 0, .int .i64 0, .string ⟨#[]⟩]) 3 32 Try.underlying26 Hiv.out Hzv0.out Hzv1.out Hzv2.out rfl (by decide) (.slice (some ⟨W0.heap.size, 0, none⟩) 0 0) 0 [] (by simp [Act.eval]) (World.ownsRow.kept (own_below (own_empty (B := W0.heap.size) (k := 3) xV40f bW0.size) cV41f) gV42f (own_apart (by decide) (own_empty (B := W0.heap.size) (k := 3) xV41f bV40f.size) (own_below (own_empty (B := W0.heap.size) (k := 3) xV40f bW0.size) cV41f))) xa s.length xc (flat s) (by simp [Act.eval]) Hxnil.out (flat_length s) (Hxnews.out V42f bV42f) (flat_one s) (by unfold maxLen; omega) (by omega) bV42f.size ?_
      intro uV43f V43f oV43f gV43f
      rw [Nat.zero_add, List.nil_append] at oV43f
      obtain ⟨aV43f, kV43f, rfl⟩ := own_form oV43f
      have bV43f : Below W0.heap.size W0 V43f := bV42f.grown gV43f bV42f.size (fun k e => (World.ownsRow.lt (World.ownsRow.kept (own_below (own_empty (B := W0.heap.size) (k := 3) xV40f bW0.size) cV41f) gV42f (own_apart (by decide) (own_empty (B := W0.heap.size) (k := 3) xV41f bV40f.size) (own_below (own_empty (B := W0.heap.size) (k := 3) xV40f bW0.size) cV41f))) k e).1)
      obtain ⟨y1V43f, y2V43f, yfV43f⟩ := Hkeep.out V43f bV43f
      clear hHeld
      refine hK.out _ _ ?_ (fun hHeld => ?_)
      · (try dsimp only); (first | assumption | go_keep)
      clear hK K
      try simp only [Act.put, List.setIfInBounds_toArray, List.set_cons_zero, List.set_cons_succ]
      refine wpAnyH_take (i := 15) (oi := ⟨some 49, _, _, _, _, _⟩) (v := ?vf29) rfl (by kernel_rfl) (by kernel_rfl) (by kernel_rfl) (fun _ _ _ h => h) (Or.inl ⟨by rfl, ?hf29⟩) (by assumption) ?rf29
      case hf29 => (intro w hSw; (try dsimp only at hSw); (first | (go_simp; done) | (go_simp; with_reducible rfl)))
      try simp only [Act.put, List.setIfInBounds_toArray, List.set_cons_zero, List.set_cons_succ]
      refine wpAnyH_ready (rs := [16]) (by kernel_rfl) (by simp) ?_
      refine (AllReadyH.cons (o := ⟨some 50, _, _, _, _, _⟩) (rs := []) rfl (fun K hK => ?_) AllReadyH.nil)
      have xV44f := heap_new V43f (.cells #[.int .i64 (last + 1), .int .i64 t, .slice aV43f s.length kV43f] 34)
      have cV44f := (Below.refl V43f.heap.size V43f).alloc (Nat.le_refl _) (.cells #[.int .i64 (last + 1), .int .i64 t, .slice aV43f s.length kV43f] 34)
      obtain ⟨V44f, eV44f⟩ : ∃ V, V43f.alloc (.cells #[.int .i64 (last + 1), .int .i64 t, .slice aV43f s.length kV43f] 34) = V := ⟨_, rfl⟩
      rw [eV44f] at xV44f cV44f
      have bV44f := bV43f.trans (cV44f.mono bV43f.size)
      obtain ⟨y1V44f, y2V44f, yfV44f⟩ := Hkeep.out V44f bV44f
      go_simp
      clear eV44f
      try go_wp2_with fail
      clear hHeld
      refine hK.out _ _ ?_ (fun hHeld => ?_)
      · (try dsimp only); (first | assumption | go_keep)
      clear hK K
      try simp only [Act.put, List.setIfInBounds_toArray, List.set_cons_zero, List.set_cons_succ]
      refine wpAnyH_ready (rs := [17]) (by kernel_rfl) (by simp) ?_
      refine (AllReadyH.cons (o := ⟨some 51, _, _, _, _, _⟩) (rs := []) rfl (fun K hK => ?_) AllReadyH.nil)
      refine step_append_in rfl (.tmp 40) (.tmp 50) 54 rfl W0.heap.size 34 jf (.agg #[.int .i64 0, .int .i64 0, .slice none 0 0]) 3 40 Try.underlying54 Hif.out Hzf0.out Hzf1.out Hzf2.out rfl (by decide) (.slice aV42f L.length kV42f) L.length (gflat L) (by simp [Act.eval]) (own_below (World.ownsRow.kept oV42f gV43f (own_apart (by decide) (World.ownsRow.kept (own_below (own_empty (B := W0.heap.size) (k := 3) xV40f bW0.size) cV41f) gV42f (own_apart (by decide) (own_empty (B := W0.heap.size) (k := 3) xV41f bV40f.size) (own_below (own_empty (B := W0.heap.size) (k := 3) xV40f bW0.size) cV41f))) oV42f)) cV44f) (some ⟨V43f.heap.size, 0, none⟩) 1 1 [.int .i64 (last + 1), .int .i64 t, .slice aV43f s.length kV43f] (by simp [Act.eval]) (by simp) (by rfl) (by intro q hq; cases hq; exact lit3 xV44f) (by simp [Value.oneCell']) (by unfold maxLen; omega) (by omega) bV44f.size ?_
      intro uV45f V45f oV45f gV45f
      obtain ⟨aV45f, kV45f, rfl⟩ := own_form oV45f
      have bV45f : Below W0.heap.size W0 V45f := bV44f.grown gV45f bV44f.size (fun k e => (World.ownsRow.lt (own_below (World.ownsRow.kept oV42f gV43f (own_apart (by decide) (World.ownsRow.kept (own_below (own_empty (B := W0.heap.size) (k := 3) xV40f bW0.size) cV41f) gV42f (own_apart (by decide) (own_empty (B := W0.heap.size) (k := 3) xV41f bV40f.size) (own_below (own_empty (B := W0.heap.size) (k := 3) xV40f bW0.size) cV41f))) oV42f)) cV44f) k e).1)
      obtain ⟨y1V45f, y2V45f, yfV45f⟩ := Hkeep.out V45f bV45f
      clear hHeld
      refine hK.out _ _ ?_ (fun hHeld => ?_)
      · (try dsimp only); (first | assumption | go_keep)
      clear hK K
      try simp only [Act.put, List.setIfInBounds_toArray, List.set_cons_zero, List.set_cons_succ]
      refine wpAnyH_take (i := 18) (oi := ⟨some 52, _, _, _, _, _⟩) (v := ?vf30) rfl (by kernel_rfl) (by kernel_rfl) (by kernel_rfl) (fun _ _ _ h => h) (Or.inl ⟨by rfl, ?hf30⟩) (by assumption) ?rf30
      case hf30 => (intro w hSw; (try dsimp only at hSw); (first | (go_simp; done) | (go_simp; with_reducible rfl)))
      try simp only [Act.put, List.setIfInBounds_toArray, List.set_cons_zero, List.set_cons_succ]
      refine wpAnyH_take (i := 19) (oi := ⟨some 53, _, _, _, _, _⟩) (v := ?vf31) rfl (by kernel_rfl) (by kernel_rfl) (by kernel_rfl) (fun _ _ _ h => h) (Or.inl ⟨by rfl, ?hf31⟩) (by assumption) ?rf31
      case hf31 => (intro w hSw; (try dsimp only at hSw); (first | (go_simp; done) | (go_simp; with_reducible rfl)))
      try simp only [Act.put, List.setIfInBounds_toArray, List.set_cons_zero, List.set_cons_succ]
      refine wpAnyH_ready (rs := [20]) (by kernel_rfl) (by simp) ?_
      refine (AllReadyH.cons (o := ⟨none, _, _, _, _, _⟩) (rs := []) rfl (fun K hK => ?_) AllReadyH.nil)
      have HF := hide (HR.out V45f bV45f _ _ _ _ oV45f (World.ownsRow.kept (own_below oV43f cV44f) gV45f (own_apart (by decide) (own_below (World.ownsRow.kept oV42f gV43f (own_apart (by decide) (World.ownsRow.kept (own_below (own_empty (B := W0.heap.size) (k := 3) xV40f bW0.size) cV41f) gV42f (own_apart (by decide) (own_empty (B := W0.heap.size) (k := 3) xV41f bV40f.size) (own_below (own_empty (B := W0.heap.size) (k := 3) xV40f bW0.size) cV41f))) oV42f)) cV44f) (own_below oV43f cV44f))))
      have q1 : (World.setCell V45f ⟨r, 2, none⟩ (.slice aV45f (L.length + 1) kV45f)).cell? ⟨r, 1, none⟩ = some (.int .i64 (last + 1)) := (cells3 HF.out.1.cells).2.1
      go_simp
      try go_wp2_with fail
      clear hHeld
      refine hK.out _ _ ?_ (fun hHeld => ?_)
      · (try dsimp only); (first | assumption | go_keep)
      clear hK K
      try simp only [Act.put, List.setIfInBounds_toArray, List.set_cons_zero, List.set_cons_succ]
      refine wpAnyH_done (by kernel_rfl) ?_ _
      refine NoPanic.normal ?_
      clear hHeld
      go_wp2
      refine bodyPost_ret (v := .tuple #[.int .i64 (last + 1), .bool true, .int .i64 0]) (by simp [results, Try.results26, go_sem, *]) rfl ?_
      exact ⟨_, _, _, rfl, HF.out.1, HF.out.2.1, HF.out.2.2⟩
    · go_simp
      try go_wp2_with fail
      clear hHeld
      refine hK.out _ _ ?_ (fun hHeld => ?_)
      · (try dsimp only); (first | assumption | go_keep)
      clear hK K
      try simp only [Act.put, List.setIfInBounds_toArray, List.set_cons_zero, List.set_cons_succ]
      refine wpAnyH_ready (rs := [1]) (by kernel_rfl) (by simp) ?_
      refine (AllReadyH.cons (o := ⟨some 35, _, _, _, _, _⟩) (rs := []) rfl (fun K hK => ?_) AllReadyH.nil)
      have xV47f := heap_new V40f (.cells #[] 34)
      have cV47f := (Below.refl V40f.heap.size V40f).alloc (Nat.le_refl _) (.cells #[] 34)
      obtain ⟨V47f, eV47f⟩ : ∃ V, V40f.alloc (.cells #[] 34) = V := ⟨_, rfl⟩
      rw [eV47f] at xV47f cV47f
      have bV47f := bV40f.trans (cV47f.mono bV40f.size)
      obtain ⟨y1V47f, y2V47f, yfV47f⟩ := Hkeep.out V47f bV47f
      go_simp
      clear eV47f
      try go_wp2_with fail
      clear hHeld
      refine hK.out _ _ ?_ (fun hHeld => ?_)
      · (try dsimp only); (first | assumption | go_keep)
      clear hK K
      try simp only [Act.put, List.setIfInBounds_toArray, List.set_cons_zero, List.set_cons_succ]
      refine wpAnyH_ready (rs := [6]) (by kernel_rfl) (by simp) ?_
      refine (AllReadyH.cons (o := ⟨some 40, _, _, _, _, _⟩) (rs := []) rfl (fun K hK => ?_) AllReadyH.nil)
      refine step_append_in rfl (.tmp 35) (.tmp 39) 54 rfl W0.heap.size 34 jf (.agg #[.int .i64 0, .int .i64 0, .slice none 0 0]) 3 40 Try.underlying54 Hif.out Hzf0.out Hzf1.out Hzf2.out rfl (by decide) (.slice (some ⟨V40f.heap.size, 0, none⟩) 0 0) 0 [] (by simp [Act.eval]) (own_empty (B := W0.heap.size) (k := 3) xV47f bV40f.size) a L.length c (gflat L) (by simp [Act.eval]) Hnil.out (gflat_len L) (Hnews.out V47f bV47f) Hone.out (by unfold maxLen; omega) (by omega) bV47f.size ?_
      intro uV48f V48f oV48f gV48f
      rw [Nat.zero_add, List.nil_append] at oV48f
      obtain ⟨aV48f, kV48f, rfl⟩ := own_form oV48f
      have bV48f : Below W0.heap.size W0 V48f := bV47f.grown gV48f bV47f.size (fun k e => (World.ownsRow.lt (own_empty (B := W0.heap.size) (k := 3) xV47f bV40f.size) k e).1)
      obtain ⟨y1V48f, y2V48f, yfV48f⟩ := Hkeep.out V48f bV48f
      clear hHeld
      refine hK.out _ _ ?_ (fun hHeld => ?_)
      · (try dsimp only); (first | assumption | go_keep)
      clear hK K
      try simp only [Act.put, List.setIfInBounds_toArray, List.set_cons_zero, List.set_cons_succ]
      refine wpAnyH_ready (rs := [14]) (by kernel_rfl) (by simp) ?_
      refine (AllReadyH.cons (o := ⟨some 48, _, _, _, _, _⟩) (rs := []) rfl (fun K hK => ?_) AllReadyH.nil)
      refine step_append_in rfl (.tmp 46) (.tmp 47) 26 rfl W0.heap.size 28 jv (.agg #[.int .u8 0, .int .i64 0, .string ⟨#[]⟩]) 3 32 Try.underlying26 Hiv.out Hzv0.out Hzv1.out Hzv2.out rfl (by decide) (.slice (some ⟨W0.heap.size, 0, none⟩) 0 0) 0 [] (by simp [Act.eval]) (World.ownsRow.kept (own_below (own_empty (B := W0.heap.size) (k := 3) xV40f bW0.size) cV47f) gV48f (own_apart (by decide) (own_empty (B := W0.heap.size) (k := 3) xV47f bV40f.size) (own_below (own_empty (B := W0.heap.size) (k := 3) xV40f bW0.size) cV47f))) xa s.length xc (flat s) (by simp [Act.eval]) Hxnil.out (flat_length s) (Hxnews.out V48f bV48f) (flat_one s) (by unfold maxLen; omega) (by omega) bV48f.size ?_
      intro uV49f V49f oV49f gV49f
      rw [Nat.zero_add, List.nil_append] at oV49f
      obtain ⟨aV49f, kV49f, rfl⟩ := own_form oV49f
      have bV49f : Below W0.heap.size W0 V49f := bV48f.grown gV49f bV48f.size (fun k e => (World.ownsRow.lt (World.ownsRow.kept (own_below (own_empty (B := W0.heap.size) (k := 3) xV40f bW0.size) cV47f) gV48f (own_apart (by decide) (own_empty (B := W0.heap.size) (k := 3) xV47f bV40f.size) (own_below (own_empty (B := W0.heap.size) (k := 3) xV40f bW0.size) cV47f))) k e).1)
      obtain ⟨y1V49f, y2V49f, yfV49f⟩ := Hkeep.out V49f bV49f
      clear hHeld
      refine hK.out _ _ ?_ (fun hHeld => ?_)
      · (try dsimp only); (first | assumption | go_keep)
      clear hK K
      try simp only [Act.put, List.setIfInBounds_toArray, List.set_cons_zero, List.set_cons_succ]
      refine wpAnyH_take (i := 15) (oi := ⟨some 49, _, _, _, _, _⟩) (v := ?vf32) rfl (by kernel_rfl) (by kernel_rfl) (by kernel_rfl) (fun _ _ _ h => h) (Or.inl ⟨by rfl, ?hf32⟩) (by assumption) ?rf32
      case hf32 => (intro w hSw; (try dsimp only at hSw); (first | (go_simp; done) | (go_simp; with_reducible rfl)))
      try simp only [Act.put, List.setIfInBounds_toArray, List.set_cons_zero, List.set_cons_succ]
      refine wpAnyH_ready (rs := [16]) (by kernel_rfl) (by simp) ?_
      refine (AllReadyH.cons (o := ⟨some 50, _, _, _, _, _⟩) (rs := []) rfl (fun K hK => ?_) AllReadyH.nil)
      have xV50f := heap_new V49f (.cells #[.int .i64 (last + 1), .int .i64 t, .slice aV49f s.length kV49f] 34)
      have cV50f := (Below.refl V49f.heap.size V49f).alloc (Nat.le_refl _) (.cells #[.int .i64 (last + 1), .int .i64 t, .slice aV49f s.length kV49f] 34)
      obtain ⟨V50f, eV50f⟩ : ∃ V, V49f.alloc (.cells #[.int .i64 (last + 1), .int .i64 t, .slice aV49f s.length kV49f] 34) = V := ⟨_, rfl⟩
      rw [eV50f] at xV50f cV50f
      have bV50f := bV49f.trans (cV50f.mono bV49f.size)
      obtain ⟨y1V50f, y2V50f, yfV50f⟩ := Hkeep.out V50f bV50f
      go_simp
      clear eV50f
      try go_wp2_with fail
      clear hHeld
      refine hK.out _ _ ?_ (fun hHeld => ?_)
      · (try dsimp only); (first | assumption | go_keep)
      clear hK K
      try simp only [Act.put, List.setIfInBounds_toArray, List.set_cons_zero, List.set_cons_succ]
      refine wpAnyH_ready (rs := [17]) (by kernel_rfl) (by simp) ?_
      refine (AllReadyH.cons (o := ⟨some 51, _, _, _, _, _⟩) (rs := []) rfl (fun K hK => ?_) AllReadyH.nil)
      refine step_append_in rfl (.tmp 40) (.tmp 50) 54 rfl W0.heap.size 34 jf (.agg #[.int .i64 0, .int .i64 0, .slice none 0 0]) 3 40 Try.underlying54 Hif.out Hzf0.out Hzf1.out Hzf2.out rfl (by decide) (.slice aV48f L.length kV48f) L.length (gflat L) (by simp [Act.eval]) (own_below (World.ownsRow.kept oV48f gV49f (own_apart (by decide) (World.ownsRow.kept (own_below (own_empty (B := W0.heap.size) (k := 3) xV40f bW0.size) cV47f) gV48f (own_apart (by decide) (own_empty (B := W0.heap.size) (k := 3) xV47f bV40f.size) (own_below (own_empty (B := W0.heap.size) (k := 3) xV40f bW0.size) cV47f))) oV48f)) cV50f) (some ⟨V49f.heap.size, 0, none⟩) 1 1 [.int .i64 (last + 1), .int .i64 t, .slice aV49f s.length kV49f] (by simp [Act.eval]) (by simp) (by rfl) (by intro q hq; cases hq; exact lit3 xV50f) (by simp [Value.oneCell']) (by unfold maxLen; omega) (by omega) bV50f.size ?_
      intro uV51f V51f oV51f gV51f
      obtain ⟨aV51f, kV51f, rfl⟩ := own_form oV51f
      have bV51f : Below W0.heap.size W0 V51f := bV50f.grown gV51f bV50f.size (fun k e => (World.ownsRow.lt (own_below (World.ownsRow.kept oV48f gV49f (own_apart (by decide) (World.ownsRow.kept (own_below (own_empty (B := W0.heap.size) (k := 3) xV40f bW0.size) cV47f) gV48f (own_apart (by decide) (own_empty (B := W0.heap.size) (k := 3) xV47f bV40f.size) (own_below (own_empty (B := W0.heap.size) (k := 3) xV40f bW0.size) cV47f))) oV48f)) cV50f) k e).1)
      obtain ⟨y1V51f, y2V51f, yfV51f⟩ := Hkeep.out V51f bV51f
      clear hHeld
      refine hK.out _ _ ?_ (fun hHeld => ?_)
      · (try dsimp only); (first | assumption | go_keep)
      clear hK K
      try simp only [Act.put, List.setIfInBounds_toArray, List.set_cons_zero, List.set_cons_succ]
      refine wpAnyH_take (i := 18) (oi := ⟨some 52, _, _, _, _, _⟩) (v := ?vf33) rfl (by kernel_rfl) (by kernel_rfl) (by kernel_rfl) (fun _ _ _ h => h) (Or.inl ⟨by rfl, ?hf33⟩) (by assumption) ?rf33
      case hf33 => (intro w hSw; (try dsimp only at hSw); (first | (go_simp; done) | (go_simp; with_reducible rfl)))
      try simp only [Act.put, List.setIfInBounds_toArray, List.set_cons_zero, List.set_cons_succ]
      refine wpAnyH_take (i := 19) (oi := ⟨some 53, _, _, _, _, _⟩) (v := ?vf34) rfl (by kernel_rfl) (by kernel_rfl) (by kernel_rfl) (fun _ _ _ h => h) (Or.inl ⟨by rfl, ?hf34⟩) (by assumption) ?rf34
      case hf34 => (intro w hSw; (try dsimp only at hSw); (first | (go_simp; done) | (go_simp; with_reducible rfl)))
      try simp only [Act.put, List.setIfInBounds_toArray, List.set_cons_zero, List.set_cons_succ]
      refine wpAnyH_ready (rs := [20]) (by kernel_rfl) (by simp) ?_
      refine (AllReadyH.cons (o := ⟨none, _, _, _, _, _⟩) (rs := []) rfl (fun K hK => ?_) AllReadyH.nil)
      have HF := hide (HR.out V51f bV51f _ _ _ _ oV51f (World.ownsRow.kept (own_below oV49f cV50f) gV51f (own_apart (by decide) (own_below (World.ownsRow.kept oV48f gV49f (own_apart (by decide) (World.ownsRow.kept (own_below (own_empty (B := W0.heap.size) (k := 3) xV40f bW0.size) cV47f) gV48f (own_apart (by decide) (own_empty (B := W0.heap.size) (k := 3) xV47f bV40f.size) (own_below (own_empty (B := W0.heap.size) (k := 3) xV40f bW0.size) cV47f))) oV48f)) cV50f) (own_below oV49f cV50f))))
      have q1 : (World.setCell V51f ⟨r, 2, none⟩ (.slice aV51f (L.length + 1) kV51f)).cell? ⟨r, 1, none⟩ = some (.int .i64 (last + 1)) := (cells3 HF.out.1.cells).2.1
      go_simp
      try go_wp2_with fail
      clear hHeld
      refine hK.out _ _ ?_ (fun hHeld => ?_)
      · (try dsimp only); (first | assumption | go_keep)
      clear hK K
      try simp only [Act.put, List.setIfInBounds_toArray, List.set_cons_zero, List.set_cons_succ]
      refine wpAnyH_done (by kernel_rfl) ?_ _
      refine NoPanic.normal ?_
      clear hHeld
      go_wp2
      refine bodyPost_ret (v := .tuple #[.int .i64 (last + 1), .bool true, .int .i64 0]) (by simp [results, Try.results26, go_sem, *]) rfl ?_
      exact ⟨_, _, _, rfl, HF.out.1, HF.out.2.1, HF.out.2.2⟩
end Go.Proofs.Yteealadflekffaa
