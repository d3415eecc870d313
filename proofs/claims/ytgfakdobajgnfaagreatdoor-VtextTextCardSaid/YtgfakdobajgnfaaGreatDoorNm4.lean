/- num (the document's): Neg, Add, Sub, Cmp. -/
import Derived.Test.YtgfakdobajgnfaaGreatDoorNm3
import Derived.Deep.RegionHeld3
namespace Go.Proofs.YtgfakdobajgnfaaGreatDoor
open Go Go.RowKit Go.Lib

/-- What a function of this layer tells: a number, in new memory. -/
def NmPost (w : World) (z : Int) (e : Ending) (w' : World) : Prop := (∃ v, e = .returned v ∧ NumIs w' v z) ∧ Below w.heap.size w w'
theorem NumIs.form {w : World} {v : Value} {z : Int} (h : NumIs w v z) : ∃ a c, v = .agg #[.bool (decide (z < 0)), .slice a (lenD z.natAbs) c] ∧ DgRd w (.slice a (lenD z.natAbs) c) (dg z.natAbs) := by
  obtain ⟨s, h1, h2⟩ := h
  obtain ⟨a, c, rfl, _⟩ := h2.slice
  exact ⟨a, c, h1, h2⟩
theorem trim_num {w : World} {sl : Value} {l : List Nat} (neg : Bool) (hs : DgRd w sl l) (ho : okD l) {z : Int} (hz : sgn neg (nv l) = z) : Calls Tryz.prog 125 #[.bool neg, sl] w (NmPost w z) := by
  rw [← hz]
  exact trim_any neg hs ho
/-- A store into a number's own two cells leaves all digits. -/
theorem NumIs.store {V : World} {r : Nat} {v : Value} {z : Int} {p : Bool} {a : Option Addr} {n c : Nat} {t : TypeId} (h : NumIs V v z) (hr : V.heap[r]? = some (.cells #[.bool p, .slice a n c] t (0, 0))) (u u' : Value) : NumIs ((V.setCell ⟨r, 0, none⟩ u).setCell ⟨r, 1, none⟩ u') v z := by
  obtain ⟨s, rfl, h1, a0, c0, rfl, h3, h4⟩ := h
  refine ⟨_, rfl, h1, a0, c0, rfl, h3, fun i hi => ?_⟩
  obtain ⟨b, off, e, hc⟩ := h4 i hi
  refine ⟨b, off, e, ?_⟩
  have hne : b ≠ r := by
    rintro rfl
    simp only [World.cell?, hr] at hc
    obtain h0 | h0 | h0 : off + i = 0 ∨ off + i = 1 ∨ 2 ≤ off + i := by omega
    · rw [h0] at hc; simp at hc
    · rw [h0] at hc; simp at hc
    · rw [Array.getElem?_eq_none (by simpa using h0)] at hc; simp at hc
  rw [← hc]
  refine World.cell?_of_block ?_
  show ((V.setCell ⟨r, 0, none⟩ u).setCell ⟨r, 1, none⟩ u').heap[b]? = V.heap[b]?
  rw [Below.heap_setCell _ _ _ _ (by exact hne), Below.heap_setCell _ _ _ _ (by exact hne)]
set_option maxRecDepth 100000 in
set_option maxHeartbeats 4000000 in
theorem neg_any {w : World} {v : Value} {x : Int} (hx : NumIs w v x) : Calls Tryz.prog 192 #[v] w (NmPost w (-x)) := by
  obtain ⟨a, c, rfl, hs⟩ := hx.form
  obtain ⟨b, hb⟩ : ∃ b, decide (x < 0) = b := ⟨_, rfl⟩
  rw [hb]
  have hz : sgn (!b) (nv (dg x.natAbs)) = -x := by
    rw [nv_dg, ← hb]
    unfold sgn
    by_cases h : x < 0
    · rw [decide_eq_true h]; simp; omega
    · rw [decide_eq_false h]; simp; omega
  obtain ⟨n, hn⟩ : ∃ n, lenD x.natAbs = n := ⟨_, rfl⟩
  rw [hn] at hs ⊢
  have HT := fun V (hV : Below w.heap.size w V) => hide (trim_num (!b) (hs.below hV) (ok_dg _) hz)
  have hB0 := hide (((Below.refl _ w).alloc (Nat.le_refl _) (.cells #[.bool b, .slice a n c] 79)).alloc (by simp) (.cells #[.bool false, .slice none 0 0] 79))
  have hP0 := hide (heap_alloc0 (w.alloc (.cells #[.bool b, .slice a n c] 79)) (.cells #[.bool false, .slice none 0 0] 79))
  clear hx hs hz hb hn
  go_enter Tryz.func192, Tryz.ntmps192
  go_wp2_with fail
  (with_reducible refine (HT _ hB0.out).out.mono ?_)
  rintro e V ⟨⟨v, rfl, hv⟩, hb⟩
  obtain ⟨a', c', rfl, _⟩ := hv.form
  have hp := (hb.block _ (lt_of_heap hP0.out)).trans hP0.out
  rw [show (w.alloc (.cells #[.bool b, .slice a n c] 79)).heap.size = w.heap.size + 1 by simp] at hp
  obtain ⟨x0, x1, xf⟩ := two_cells' hp
  have xf0 := xf 0
  have xf1 := xf 1
  have HB := hide (((hB0.out.trans (hb.mono hB0.out.size)).setCell (p := ⟨w.heap.size + 1, 0, none⟩) (by simp) (.bool (decide (-x < 0)))).setCell (p := ⟨w.heap.size + 1, 1, none⟩) (by simp) (.slice a' (lenD (-x).natAbs) c'))
  have HV := hide (hv.store hp (.bool (decide (-x < 0))) (.slice a' (lenD (-x).natAbs) c'))
  obtain ⟨nb, hnb⟩ : ∃ nb, decide (-x < 0) = nb := ⟨_, rfl⟩
  obtain ⟨k, hk⟩ : ∃ k, lenD (-x).natAbs = k := ⟨_, rfl⟩
  rw [hnb, hk] at HB HV ⊢
  clear hv hb hp xf hB0 hP0 HT hnb hk
  go_wp2_with fail
  refine bodyPost_ret (v := .agg #[.bool nb, .slice a' k c']) (by simp [results, Tryz.results192, go_sem, *]) rfl ⟨⟨_, rfl, HV.out⟩, HB.out⟩
/-- Boxes of two numbers: Add. -/
theorem lens (n : Nat) : (dg n).length = lenD n := rfl
set_option maxRecDepth 100000 in
set_option maxHeartbeats 16000000 in
theorem add_any {w : World} {vx vy : Value} {x y : Int} (hx : NumIs w vx x) (hy : NumIs w vy y) (hlx : lenD x.natAbs ≤ 100000) (hly : lenD y.natAbs ≤ 100000) : Calls Tryz.prog 191 #[vx, vy] w (NmPost w (x + y)) := by
  obtain ⟨ax, cx, rfl, hsx⟩ := hx.form
  obtain ⟨ay, cy, rfl, hsy⟩ := hy.form
  obtain ⟨bx, hbx⟩ : ∃ b, decide (x < 0) = b := ⟨_, rfl⟩
  obtain ⟨by', hby⟩ : ∃ b, decide (y < 0) = b := ⟨_, rfl⟩
  obtain ⟨nx, hnx⟩ : ∃ n, lenD x.natAbs = n := ⟨_, rfl⟩
  obtain ⟨ny, hny⟩ : ∃ n, lenD y.natAbs = n := ⟨_, rfl⟩
  have hxi : (bx = true ↔ x < 0) := by rw [← hbx]; simp
  have hyi : (by' = true ↔ y < 0) := by rw [← hby]; simp
  rw [hbx, hnx, hby, hny]
  rw [hnx] at hsx hlx
  rw [hny] at hsy hly
  have hb0 : Below w.heap.size w (((w.alloc (.cells #[.bool bx, .slice ax nx cx] 79)).alloc (.cells #[.bool by', .slice ay ny cy] 79)).alloc (.cells #[.bool false, .slice none 0 0] 79)) := (((Below.refl _ w).alloc (Nat.le_refl _) _).alloc (by simp) _).alloc (by simp; omega) _
  have hpx : (((w.alloc (.cells #[.bool bx, .slice ax nx cx] 79)).alloc (.cells #[.bool by', .slice ay ny cy] 79)).alloc (.cells #[.bool false, .slice none 0 0] 79)).heap[w.heap.size]? = some (.cells #[.bool bx, .slice ax nx cx] 79 (0, 0)) := by
    have h1 := heap_alloc0 w (.cells #[.bool bx, .slice ax nx cx] 79)
    have h2 := ((Below.refl _ (w.alloc (.cells #[.bool bx, .slice ax nx cx] 79))).alloc (Nat.le_refl _) (.cells #[.bool by', .slice ay ny cy] 79)).alloc (by simp) (.cells #[.bool false, .slice none 0 0] 79)
    exact (h2.block _ (lt_of_heap h1)).trans h1
  have hpy : (((w.alloc (.cells #[.bool bx, .slice ax nx cx] 79)).alloc (.cells #[.bool by', .slice ay ny cy] 79)).alloc (.cells #[.bool false, .slice none 0 0] 79)).heap[w.heap.size + 1]? = some (.cells #[.bool by', .slice ay ny cy] 79 (0, 0)) := by
    have h1 := heap_alloc0 (w.alloc (.cells #[.bool bx, .slice ax nx cx] 79)) (.cells #[.bool by', .slice ay ny cy] 79)
    rw [show (w.alloc (.cells #[.bool bx, .slice ax nx cx] 79)).heap.size = w.heap.size + 1 by simp] at h1
    have h2 := (Below.refl _ ((w.alloc (.cells #[.bool bx, .slice ax nx cx] 79)).alloc (.cells #[.bool by', .slice ay ny cy] 79))).alloc (Nat.le_refl _) (.cells #[.bool false, .slice none 0 0] 79)
    exact (h2.block _ (lt_of_heap h1)).trans h1
  have hpz : (((w.alloc (.cells #[.bool bx, .slice ax nx cx] 79)).alloc (.cells #[.bool by', .slice ay ny cy] 79)).alloc (.cells #[.bool false, .slice none 0 0] 79)).heap[w.heap.size + 2]? = some (.cells #[.bool false, .slice none 0 0] 79 (0, 0)) := by
    have h1 := heap_alloc0 ((w.alloc (.cells #[.bool bx, .slice ax nx cx] 79)).alloc (.cells #[.bool by', .slice ay ny cy] 79)) (.cells #[.bool false, .slice none 0 0] 79)
    rw [show ((w.alloc (.cells #[.bool bx, .slice ax nx cx] 79)).alloc (.cells #[.bool by', .slice ay ny cy] 79)).heap.size = w.heap.size + 2 by simp] at h1
    exact h1
  by_cases hs : bx = by'
  · subst hs
    obtain ⟨W0, hW0⟩ : ∃ W0, (((w.alloc (.cells #[.bool bx, .slice ax nx cx] 79)).alloc (.cells #[.bool bx, .slice ay ny cy] 79)).alloc (.cells #[.bool false, .slice none 0 0] 79)).drew = W0 := ⟨_, rfl⟩
    have hB0' : Below w.heap.size w W0 := by rw [← hW0]; exact hb0.drew
    have hX0 : W0.heap[w.heap.size]? = some (.cells #[.bool bx, .slice ax nx cx] 79 (0, 0)) := by rw [← hW0]; exact hpx
    have hY0 : W0.heap[w.heap.size + 1]? = some (.cells #[.bool bx, .slice ay ny cy] 79 (0, 0)) := by rw [← hW0]; exact hpy
    have hZ0 : W0.heap[w.heap.size + 2]? = some (.cells #[.bool false, .slice none 0 0] 79 (0, 0)) := by rw [← hW0]; exact hpz
    have HU := hide (up_any (hsx.below hB0') (hsy.below hB0') (ok_dg _) (ok_dg _) (by rw [lens, hnx]; exact hlx) (by rw [lens, hny]; exact hly))
    have HZ : Hid (∀ n, n = nv (dg x.natAbs) + nv (dg y.natAbs) → sgn bx n = x + y) := hide (fun n hn => by
      rw [nv_dg, nv_dg] at hn
      unfold sgn
      cases bx <;> simp at hxi hyi ⊢ <;> omega)
    obtain ⟨m0, m1, _⟩ := two_cells' hX0
    obtain ⟨m2, m3, _⟩ := two_cells' hY0
    have HPX := hide hX0
    have HPY := hide hY0
    have HPZ := hide hZ0
    have HB0 := hide hB0'
    have hne1 : ¬ w.heap.size = w.heap.size + 1 + 1 := by omega
    have hne2 : ¬ w.heap.size + 1 + 1 = w.heap.size := by omega
    clear hx hy hsx hsy hbx hby hnx hny hb0 hpx hpy hpz hX0 hY0 hZ0 hB0' hxi hyi
    have f1 : (bx == bx) = true := by simp
    go_enter Tryz.func191, Tryz.ntmps191
    go_wp2_with fail
    go_region_held3 (fun V => V.cell? ⟨w.heap.size, 0, none⟩ = some (.bool bx) ∧ V.cell? ⟨w.heap.size, 1, none⟩ = some (.slice ax nx cx) ∧ V.cell? ⟨w.heap.size + 1, 0, none⟩ = some (.bool bx) ∧ V.cell? ⟨w.heap.size + 1, 1, none⟩ = some (.slice ay ny cy)) (go_keep)
      (first
        | (go_at_call 190; (with_reducible refine HU.out.mono ?_); rintro e V1 ⟨⟨v1, o, rfl, hd1, ho1, hv1, hl1⟩, hb1⟩; obtain ⟨a1, c1, rfl, _⟩ := hd1.slice; obtain ⟨k0, k1, _⟩ := two_cells' ((hb1.block _ (lt_of_heap HPX.out)).trans HPX.out); obtain ⟨k2, k3, _⟩ := two_cells' ((hb1.block _ (lt_of_heap HPY.out)).trans HPY.out); have HB1 := hide hb1; have HT := hide (trim_num bx hd1 ho1 (HZ.out _ hv1)); clear hb1 hd1 ho1 hv1)
        | (go_at_call 125; (with_reducible refine HT.out.mono ?_); rintro e V2 ⟨⟨v2, rfl, hv2⟩, hb2⟩; obtain ⟨a2, c2, rfl, _⟩ := hv2.form; have hbb := HB1.out.trans (hb2.mono HB1.out.size); obtain ⟨l0, l1, _⟩ := two_cells' ((hbb.block _ (lt_of_heap HPX.out)).trans HPX.out); obtain ⟨l2, l3, _⟩ := two_cells' ((hbb.block _ (lt_of_heap HPY.out)).trans HPY.out); have hpr := ((hbb.block _ (lt_of_heap HPZ.out)).trans HPZ.out); obtain ⟨l4, l5, lf⟩ := two_cells' hpr; have lf0 := lf 0; have lf1 := lf 1; have HV := hide (hv2.store hpr (.bool (decide (x + y < 0))) (.slice a2 (lenD (x + y).natAbs) c2)); have HB2 := hide (((HB0.out.trans (hbb.mono HB0.out.size)).setCell (p := ⟨w.heap.size + 2, 0, none⟩) (by simp) (.bool (decide (x + y < 0)))).setCell (p := ⟨w.heap.size + 2, 1, none⟩) (by simp) (.slice a2 (lenD (x + y).natAbs) c2)); clear hv2 hb2 hbb hpr lf))
    all_goals
      obtain ⟨nb, hnb⟩ : ∃ nb, decide (x + y < 0) = nb := ⟨_, rfl⟩
      obtain ⟨kk, hkk⟩ : ∃ k, lenD (x + y).natAbs = k := ⟨_, rfl⟩
      rw [hnb, hkk] at HB2 HV ⊢
      clear hnb hkk
      go_wp2_with fail
      refine bodyPost_ret (v := .agg #[.bool nb, .slice a2 kk c2]) (by simp [results, Tryz.results191, go_sem, *]) rfl ⟨⟨_, rfl, HV.out⟩, HB2.out⟩
  · skip
    obtain ⟨W0, hW0⟩ : ∃ W0, (((w.alloc (.cells #[.bool bx, .slice ax nx cx] 79)).alloc (.cells #[.bool by', .slice ay ny cy] 79)).alloc (.cells #[.bool false, .slice none 0 0] 79)).drew = W0 := ⟨_, rfl⟩
    have hB0' : Below w.heap.size w W0 := by rw [← hW0]; exact hb0.drew
    have hX0 : W0.heap[w.heap.size]? = some (.cells #[.bool bx, .slice ax nx cx] 79 (0, 0)) := by rw [← hW0]; exact hpx
    have hY0 : W0.heap[w.heap.size + 1]? = some (.cells #[.bool by', .slice ay ny cy] 79 (0, 0)) := by rw [← hW0]; exact hpy
    have hZ0 : W0.heap[w.heap.size + 2]? = some (.cells #[.bool false, .slice none 0 0] 79 (0, 0)) := by rw [← hW0]; exact hpz
    have f1 : (bx == by') = false := by cases bx <;> cases by' <;> simp at hs ⊢
    have HY := hide (by_any (hsx.below hb0) (hsy.below hb0) (by omega) (by omega))
    by_cases hle : y.natAbs ≤ x.natAbs
    · skip
      have hll : lenD y.natAbs ≤ lenD x.natAbs := lenD_mono hle
      have HUV := fun V (hV : Below w.heap.size w V) => hide (down_any (hsx.below hV) (hsy.below hV) (ok_dg _) (ok_dg _) (by rw [lens, hnx]; exact hlx) (by rw [lens, lens]; exact hll) (by rw [nv_dg, nv_dg]; exact hle))
      have HZ : Hid (∀ n, n = nv (dg x.natAbs) - nv (dg y.natAbs) → sgn bx n = x + y) := hide (fun n hn => by
        rw [nv_dg, nv_dg] at hn
        unfold sgn
        cases bx <;> cases by' <;> simp at hs hxi hyi ⊢ <;> omega)
      have HLE := hide hle
      have HPX0 := hide hpx
      have HPY0 := hide hpy
      have HPZ0 := hide hpz
      have HB00 := hide hb0
      clear hx hy hsx hsy hbx hby hnx hny hb0 hpx hpy hpz hX0 hY0 hZ0 hB0' hxi hyi hs hll hle hW0
      go_enter Tryz.func191, Tryz.ntmps191
      go_wp2_with fail
      (with_reducible refine HY.out.mono ?_)
      rintro e VY ⟨⟨r, rfl, hr⟩, hbY⟩
      obtain ⟨r1, r2, r3, r4⟩ := hr
      have f2 : decide ((0 : Int) ≤ r) = true := by simp; have := HLE.out; omega
      obtain ⟨W9, hW9⟩ : ∃ W9, VY.drew = W9 := ⟨_, rfl⟩
      have hb9 : Below (((w.alloc (.cells #[.bool bx, .slice ax nx cx] 79)).alloc (.cells #[.bool by', .slice ay ny cy] 79)).alloc (.cells #[.bool false, .slice none 0 0] 79)).heap.size (((w.alloc (.cells #[.bool bx, .slice ax nx cx] 79)).alloc (.cells #[.bool by', .slice ay ny cy] 79)).alloc (.cells #[.bool false, .slice none 0 0] 79)) W9 := by rw [← hW9]; exact hbY.drew
      have hX0 := (hb9.block _ (lt_of_heap HPX0.out)).trans HPX0.out
      have hY0 := (hb9.block _ (lt_of_heap HPY0.out)).trans HPY0.out
      have hZ0 := (hb9.block _ (lt_of_heap HPZ0.out)).trans HPZ0.out
      have hXY := (hbY.block _ (lt_of_heap HPX0.out)).trans HPX0.out
      have hYY := (hbY.block _ (lt_of_heap HPY0.out)).trans HPY0.out
      have hB0' := HB00.out.trans (hb9.mono HB00.out.size)
      have HU := HUV _ hB0'
      obtain ⟨g0, g1, _⟩ := two_cells' hXY
      obtain ⟨g2, g3, _⟩ := two_cells' hYY
      obtain ⟨m0, m1, _⟩ := two_cells' hX0
      obtain ⟨m2, m3, _⟩ := two_cells' hY0
      have HPX := hide hX0
      have HPY := hide hY0
      have HPZ := hide hZ0
      have HB0 := hide hB0'
      have hne1 : ¬ w.heap.size = w.heap.size + 1 + 1 := by omega
      have hne2 : ¬ w.heap.size + 1 + 1 = w.heap.size := by omega
      clear hbY hb9 hX0 hY0 hZ0 hXY hYY hB0' HUV HY r1 r2 HPX0 HPY0 HPZ0 HB00
      go_wp2_with fail
      go_region_held3 (fun V => V.cell? ⟨w.heap.size, 0, none⟩ = some (.bool bx) ∧ V.cell? ⟨w.heap.size, 1, none⟩ = some (.slice ax nx cx) ∧ V.cell? ⟨w.heap.size + 1, 0, none⟩ = some (.bool by') ∧ V.cell? ⟨w.heap.size + 1, 1, none⟩ = some (.slice ay ny cy)) (go_keep)
        (first
          | (go_at_call 231; (with_reducible refine HU.out.mono ?_); rintro e V1 ⟨⟨v1, o, rfl, hd1, ho1, hv1, hl1⟩, hb1⟩; obtain ⟨a1, c1, rfl, _⟩ := hd1.slice; obtain ⟨k0, k1, _⟩ := two_cells' ((hb1.block _ (lt_of_heap HPX.out)).trans HPX.out); obtain ⟨k2, k3, _⟩ := two_cells' ((hb1.block _ (lt_of_heap HPY.out)).trans HPY.out); have HB1 := hide hb1; have HT := hide (trim_num bx hd1 ho1 (HZ.out _ hv1)); clear hb1 hd1 ho1 hv1)
          | (go_at_call 125; (with_reducible refine HT.out.mono ?_); rintro e V2 ⟨⟨v2, rfl, hv2⟩, hb2⟩; obtain ⟨a2, c2, rfl, _⟩ := hv2.form; have hbb := HB1.out.trans (hb2.mono HB1.out.size); obtain ⟨l0, l1, _⟩ := two_cells' ((hbb.block _ (lt_of_heap HPX.out)).trans HPX.out); obtain ⟨l2, l3, _⟩ := two_cells' ((hbb.block _ (lt_of_heap HPY.out)).trans HPY.out); have hpr := ((hbb.block _ (lt_of_heap HPZ.out)).trans HPZ.out); obtain ⟨l4, l5, lf⟩ := two_cells' hpr; have lf0 := lf 0; have lf1 := lf 1; have HV := hide (hv2.store hpr (.bool (decide (x + y < 0))) (.slice a2 (lenD (x + y).natAbs) c2)); have HB2 := hide (((HB0.out.trans (hbb.mono HB0.out.size)).setCell (p := ⟨w.heap.size + 2, 0, none⟩) (by simp) (.bool (decide (x + y < 0)))).setCell (p := ⟨w.heap.size + 2, 1, none⟩) (by simp) (.slice a2 (lenD (x + y).natAbs) c2)); clear hv2 hb2 hbb hpr lf))
      all_goals
        obtain ⟨nb, hnb⟩ : ∃ nb, decide (x + y < 0) = nb := ⟨_, rfl⟩
        obtain ⟨kk, hkk⟩ : ∃ k, lenD (x + y).natAbs = k := ⟨_, rfl⟩
        rw [hnb, hkk] at HB2 HV ⊢
        clear hnb hkk
        go_wp2_with fail
        refine bodyPost_ret (v := .agg #[.bool nb, .slice a2 kk c2]) (by simp [results, Tryz.results191, go_sem, *]) rfl ⟨⟨_, rfl, HV.out⟩, HB2.out⟩
    · have hll : lenD x.natAbs ≤ lenD y.natAbs := lenD_mono (by omega)
      have HUV := fun V (hV : Below w.heap.size w V) => hide (down_any (hsy.below hV) (hsx.below hV) (ok_dg _) (ok_dg _) (by rw [lens, hny]; exact hly) (by rw [lens, lens]; exact hll) (by rw [nv_dg, nv_dg]; omega))
      have HZ : Hid (∀ n, n = nv (dg y.natAbs) - nv (dg x.natAbs) → sgn by' n = x + y) := hide (fun n hn => by
        rw [nv_dg, nv_dg] at hn
        unfold sgn
        cases bx <;> cases by' <;> simp at hs hxi hyi ⊢ <;> omega)
      have HLE := hide hle
      have HPX0 := hide hpx
      have HPY0 := hide hpy
      have HPZ0 := hide hpz
      have HB00 := hide hb0
      clear hx hy hsx hsy hbx hby hnx hny hb0 hpx hpy hpz hX0 hY0 hZ0 hB0' hxi hyi hs hll hle hW0
      go_enter Tryz.func191, Tryz.ntmps191
      go_wp2_with fail
      (with_reducible refine HY.out.mono ?_)
      rintro e VY ⟨⟨r, rfl, hr⟩, hbY⟩
      obtain ⟨r1, r2, r3, r4⟩ := hr
      have f2 : decide ((0 : Int) ≤ r) = false := by simp; have := HLE.out; omega
      obtain ⟨W9, hW9⟩ : ∃ W9, VY.drew = W9 := ⟨_, rfl⟩
      have hb9 : Below (((w.alloc (.cells #[.bool bx, .slice ax nx cx] 79)).alloc (.cells #[.bool by', .slice ay ny cy] 79)).alloc (.cells #[.bool false, .slice none 0 0] 79)).heap.size (((w.alloc (.cells #[.bool bx, .slice ax nx cx] 79)).alloc (.cells #[.bool by', .slice ay ny cy] 79)).alloc (.cells #[.bool false, .slice none 0 0] 79)) W9 := by rw [← hW9]; exact hbY.drew
      have hX0 := (hb9.block _ (lt_of_heap HPX0.out)).trans HPX0.out
      have hY0 := (hb9.block _ (lt_of_heap HPY0.out)).trans HPY0.out
      have hZ0 := (hb9.block _ (lt_of_heap HPZ0.out)).trans HPZ0.out
      have hXY := (hbY.block _ (lt_of_heap HPX0.out)).trans HPX0.out
      have hYY := (hbY.block _ (lt_of_heap HPY0.out)).trans HPY0.out
      have hB0' := HB00.out.trans (hb9.mono HB00.out.size)
      have HU := HUV _ hB0'
      obtain ⟨g0, g1, _⟩ := two_cells' hXY
      obtain ⟨g2, g3, _⟩ := two_cells' hYY
      obtain ⟨m0, m1, _⟩ := two_cells' hX0
      obtain ⟨m2, m3, _⟩ := two_cells' hY0
      have HPX := hide hX0
      have HPY := hide hY0
      have HPZ := hide hZ0
      have HB0 := hide hB0'
      have hne1 : ¬ w.heap.size = w.heap.size + 1 + 1 := by omega
      have hne2 : ¬ w.heap.size + 1 + 1 = w.heap.size := by omega
      clear hbY hb9 hX0 hY0 hZ0 hXY hYY hB0' HUV HY r1 r2 HPX0 HPY0 HPZ0 HB00
      go_wp2_with fail
      go_region_held3 (fun V => V.cell? ⟨w.heap.size, 0, none⟩ = some (.bool bx) ∧ V.cell? ⟨w.heap.size, 1, none⟩ = some (.slice ax nx cx) ∧ V.cell? ⟨w.heap.size + 1, 0, none⟩ = some (.bool by') ∧ V.cell? ⟨w.heap.size + 1, 1, none⟩ = some (.slice ay ny cy)) (go_keep)
        (first
          | (go_at_call 231; (with_reducible refine HU.out.mono ?_); rintro e V1 ⟨⟨v1, o, rfl, hd1, ho1, hv1, hl1⟩, hb1⟩; obtain ⟨a1, c1, rfl, _⟩ := hd1.slice; obtain ⟨k0, k1, _⟩ := two_cells' ((hb1.block _ (lt_of_heap HPX.out)).trans HPX.out); obtain ⟨k2, k3, _⟩ := two_cells' ((hb1.block _ (lt_of_heap HPY.out)).trans HPY.out); have HB1 := hide hb1; have HT := hide (trim_num by' hd1 ho1 (HZ.out _ hv1)); clear hb1 hd1 ho1 hv1)
          | (go_at_call 125; (with_reducible refine HT.out.mono ?_); rintro e V2 ⟨⟨v2, rfl, hv2⟩, hb2⟩; obtain ⟨a2, c2, rfl, _⟩ := hv2.form; have hbb := HB1.out.trans (hb2.mono HB1.out.size); obtain ⟨l0, l1, _⟩ := two_cells' ((hbb.block _ (lt_of_heap HPX.out)).trans HPX.out); obtain ⟨l2, l3, _⟩ := two_cells' ((hbb.block _ (lt_of_heap HPY.out)).trans HPY.out); have hpr := ((hbb.block _ (lt_of_heap HPZ.out)).trans HPZ.out); obtain ⟨l4, l5, lf⟩ := two_cells' hpr; have lf0 := lf 0; have lf1 := lf 1; have HV := hide (hv2.store hpr (.bool (decide (x + y < 0))) (.slice a2 (lenD (x + y).natAbs) c2)); have HB2 := hide (((HB0.out.trans (hbb.mono HB0.out.size)).setCell (p := ⟨w.heap.size + 2, 0, none⟩) (by simp) (.bool (decide (x + y < 0)))).setCell (p := ⟨w.heap.size + 2, 1, none⟩) (by simp) (.slice a2 (lenD (x + y).natAbs) c2)); clear hv2 hb2 hbb hpr lf))
      all_goals
        obtain ⟨nb, hnb⟩ : ∃ nb, decide (x + y < 0) = nb := ⟨_, rfl⟩
        obtain ⟨kk, hkk⟩ : ∃ k, lenD (x + y).natAbs = k := ⟨_, rfl⟩
        rw [hnb, hkk] at HB2 HV ⊢
        clear hnb hkk
        go_wp2_with fail
        refine bodyPost_ret (v := .agg #[.bool nb, .slice a2 kk c2]) (by simp [results, Tryz.results191, go_sem, *]) rfl ⟨⟨_, rfl, HV.out⟩, HB2.out⟩
set_option maxRecDepth 100000 in
set_option maxHeartbeats 16000000 in
theorem sub_any {w : World} {vx vy : Value} {x y : Int} (hx : NumIs w vx x) (hy : NumIs w vy y) (hlx : lenD x.natAbs ≤ 100000) (hly : lenD y.natAbs ≤ 100000) : Calls Tryz.prog 128 #[vx, vy] w (NmPost w (x - y)) := by
  have HXN := hide hx
  have HYN := hide hy
  obtain ⟨ax, cx, rfl, hsx⟩ := hx.form
  obtain ⟨ay, cy, rfl, hsy⟩ := hy.form
  obtain ⟨bx, hbx⟩ : ∃ b, decide (x < 0) = b := ⟨_, rfl⟩
  obtain ⟨by', hby⟩ : ∃ b, decide (y < 0) = b := ⟨_, rfl⟩
  obtain ⟨nx, hnx⟩ : ∃ n, lenD x.natAbs = n := ⟨_, rfl⟩
  obtain ⟨ny, hny⟩ : ∃ n, lenD y.natAbs = n := ⟨_, rfl⟩
  have hxi : (bx = true ↔ x < 0) := by rw [← hbx]; simp
  have hyi : (by' = true ↔ y < 0) := by rw [← hby]; simp
  rw [hbx, hnx, hby, hny]
  rw [hnx] at hsx hlx
  rw [hny] at hsy hly
  have hb0 : Below w.heap.size w (((w.alloc (.cells #[.bool bx, .slice ax nx cx] 79)).alloc (.cells #[.bool by', .slice ay ny cy] 79)).alloc (.cells #[.bool false, .slice none 0 0] 79)) := (((Below.refl _ w).alloc (Nat.le_refl _) _).alloc (by simp) _).alloc (by simp; omega) _
  have hpx : (((w.alloc (.cells #[.bool bx, .slice ax nx cx] 79)).alloc (.cells #[.bool by', .slice ay ny cy] 79)).alloc (.cells #[.bool false, .slice none 0 0] 79)).heap[w.heap.size]? = some (.cells #[.bool bx, .slice ax nx cx] 79 (0, 0)) := by
    have h1 := heap_alloc0 w (.cells #[.bool bx, .slice ax nx cx] 79)
    have h2 := ((Below.refl _ (w.alloc (.cells #[.bool bx, .slice ax nx cx] 79))).alloc (Nat.le_refl _) (.cells #[.bool by', .slice ay ny cy] 79)).alloc (by simp) (.cells #[.bool false, .slice none 0 0] 79)
    exact (h2.block _ (lt_of_heap h1)).trans h1
  have hpy : (((w.alloc (.cells #[.bool bx, .slice ax nx cx] 79)).alloc (.cells #[.bool by', .slice ay ny cy] 79)).alloc (.cells #[.bool false, .slice none 0 0] 79)).heap[w.heap.size + 1]? = some (.cells #[.bool by', .slice ay ny cy] 79 (0, 0)) := by
    have h1 := heap_alloc0 (w.alloc (.cells #[.bool bx, .slice ax nx cx] 79)) (.cells #[.bool by', .slice ay ny cy] 79)
    rw [show (w.alloc (.cells #[.bool bx, .slice ax nx cx] 79)).heap.size = w.heap.size + 1 by simp] at h1
    have h2 := (Below.refl _ ((w.alloc (.cells #[.bool bx, .slice ax nx cx] 79)).alloc (.cells #[.bool by', .slice ay ny cy] 79))).alloc (Nat.le_refl _) (.cells #[.bool false, .slice none 0 0] 79)
    exact (h2.block _ (lt_of_heap h1)).trans h1
  have hpz : (((w.alloc (.cells #[.bool bx, .slice ax nx cx] 79)).alloc (.cells #[.bool by', .slice ay ny cy] 79)).alloc (.cells #[.bool false, .slice none 0 0] 79)).heap[w.heap.size + 2]? = some (.cells #[.bool false, .slice none 0 0] 79 (0, 0)) := by
    have h1 := heap_alloc0 ((w.alloc (.cells #[.bool bx, .slice ax nx cx] 79)).alloc (.cells #[.bool by', .slice ay ny cy] 79)) (.cells #[.bool false, .slice none 0 0] 79)
    rw [show ((w.alloc (.cells #[.bool bx, .slice ax nx cx] 79)).alloc (.cells #[.bool by', .slice ay ny cy] 79)).heap.size = w.heap.size + 2 by simp] at h1
    exact h1
  obtain ⟨W0, hW0⟩ : ∃ W0, (((w.alloc (.cells #[.bool bx, .slice ax nx cx] 79)).alloc (.cells #[.bool by', .slice ay ny cy] 79)).alloc (.cells #[.bool false, .slice none 0 0] 79)).drew = W0 := ⟨_, rfl⟩
  have hB0' : Below w.heap.size w W0 := by rw [← hW0]; exact hb0.drew
  have hX0 : W0.heap[w.heap.size]? = some (.cells #[.bool bx, .slice ax nx cx] 79 (0, 0)) := by rw [← hW0]; exact hpx
  have hY0 : W0.heap[w.heap.size + 1]? = some (.cells #[.bool by', .slice ay ny cy] 79 (0, 0)) := by rw [← hW0]; exact hpy
  have hZ0 : W0.heap[w.heap.size + 2]? = some (.cells #[.bool false, .slice none 0 0] 79 (0, 0)) := by rw [← hW0]; exact hpz
  have HXV := hide (HXN.out.below hB0')
  have HYV := hide (HYN.out.below hB0')
  rw [show x.natAbs = x.natAbs from rfl] at HXV
  obtain ⟨_, _, eX, _⟩ := HXN.out.form
  have hXV : NumIs W0 (.agg #[.bool bx, .slice ax nx cx]) x := by have := HXV.out; rw [hbx, hnx] at this; exact this
  have hYV : NumIs W0 (.agg #[.bool by', .slice ay ny cy]) y := by have := HYV.out; rw [hby, hny] at this; exact this
  obtain ⟨my, hmy⟩ : ∃ m, -y = m := ⟨_, rfl⟩
  have hng := neg_any hYV
  rw [hmy] at hng
  have HNG := hide hng
  have HMY : Hid (x + my = x - y) := hide (by omega)
  have HXW := hide hXV
  have hlx' : lenD x.natAbs ≤ 100000 := by rw [hnx]; exact hlx
  have hly' : lenD my.natAbs ≤ 100000 := by rw [← hmy, Int.natAbs_neg, hny]; exact hly
  have HL := hide (And.intro hlx' hly')
  obtain ⟨m0, m1, _⟩ := two_cells' hX0
  obtain ⟨m2, m3, _⟩ := two_cells' hY0
  have HPX := hide hX0
  have HPY := hide hY0
  have HPZ := hide hZ0
  have HB0 := hide hB0'
  have hne1 : ¬ w.heap.size = w.heap.size + 1 + 1 := by omega
  have hne2 : ¬ w.heap.size + 1 + 1 = w.heap.size := by omega
  clear hx hy hsx hsy hbx hby hnx hny hb0 hpx hpy hpz hX0 hY0 hZ0 hB0' hxi hyi hXV hYV HXV HYV HXN HYN eX hlx' hly' hng hmy
  go_enter Tryz.func128, Tryz.ntmps128
  go_wp2_with fail
  go_region_held3 (fun V => V.cell? ⟨w.heap.size, 0, none⟩ = some (.bool bx) ∧ V.cell? ⟨w.heap.size, 1, none⟩ = some (.slice ax nx cx) ∧ V.cell? ⟨w.heap.size + 1, 0, none⟩ = some (.bool by') ∧ V.cell? ⟨w.heap.size + 1, 1, none⟩ = some (.slice ay ny cy)) (go_keep)
    (first
      | (go_at_call 192; (with_reducible refine HNG.out.mono ?_); rintro e V1 ⟨⟨v1, rfl, hv1⟩, hb1⟩; obtain ⟨k0, k1, _⟩ := two_cells' ((hb1.block _ (lt_of_heap HPX.out)).trans HPX.out); obtain ⟨k2, k3, _⟩ := two_cells' ((hb1.block _ (lt_of_heap HPY.out)).trans HPY.out); have HB1 := hide hb1; have HT := hide (add_any (HXW.out.below hb1) hv1 HL.out.1 HL.out.2); obtain ⟨a1, c1, rfl, _⟩ := hv1.form; clear hb1 hv1)
      | (go_at_call 191; (with_reducible refine HT.out.mono ?_); rintro e V2 ⟨⟨v2, rfl, hv2⟩, hb2⟩; rw [HMY.out] at hv2; obtain ⟨a2, c2, rfl, _⟩ := hv2.form; have hbb := HB1.out.trans (hb2.mono HB1.out.size); obtain ⟨l0, l1, _⟩ := two_cells' ((hbb.block _ (lt_of_heap HPX.out)).trans HPX.out); obtain ⟨l2, l3, _⟩ := two_cells' ((hbb.block _ (lt_of_heap HPY.out)).trans HPY.out); have hpr := ((hbb.block _ (lt_of_heap HPZ.out)).trans HPZ.out); obtain ⟨l4, l5, lf⟩ := two_cells' hpr; have lf0 := lf 0; have lf1 := lf 1; have HV := hide (hv2.store hpr (.bool (decide (x - y < 0))) (.slice a2 (lenD (x - y).natAbs) c2)); have HB2 := hide (((HB0.out.trans (hbb.mono HB0.out.size)).setCell (p := ⟨w.heap.size + 2, 0, none⟩) (by simp) (.bool (decide (x - y < 0)))).setCell (p := ⟨w.heap.size + 2, 1, none⟩) (by simp) (.slice a2 (lenD (x - y).natAbs) c2)); clear hv2 hb2 hbb hpr lf))
  all_goals
    obtain ⟨nb, hnb⟩ : ∃ nb, decide (x - y < 0) = nb := ⟨_, rfl⟩
    obtain ⟨kk, hkk⟩ : ∃ k, lenD (x - y).natAbs = k := ⟨_, rfl⟩
    rw [hnb, hkk] at HB2 HV ⊢
    clear hnb hkk
    go_wp2_with fail
    refine bodyPost_ret (v := .agg #[.bool nb, .slice a2 kk c2]) (by simp [results, Tryz.results128, go_sem, *]) rfl ⟨⟨_, rfl, HV.out⟩, HB2.out⟩
/-- How two numbers compare. -/
def cmpZ (x y : Int) : Int := if x < y then -1 else if x = y then 0 else 1
set_option maxRecDepth 100000 in
set_option maxHeartbeats 16000000 in
theorem zcmp_any {w : World} {vx vy : Value} {x y : Int} (hx : NumIs w vx x) (hy : NumIs w vy y) (hlx : lenD x.natAbs ≤ 100000) (hly : lenD y.natAbs ≤ 100000) : Calls Tryz.prog 126 #[vx, vy] w fun e w' => e = .returned (.int .i64 (cmpZ x y)) ∧ Below w.heap.size w w' := by
  have HXN := hide hx
  have HYN := hide hy
  obtain ⟨ax, cx, rfl, hsx⟩ := hx.form
  obtain ⟨ay, cy, rfl, hsy⟩ := hy.form
  obtain ⟨bx, hbx⟩ : ∃ b, decide (x < 0) = b := ⟨_, rfl⟩
  obtain ⟨by', hby⟩ : ∃ b, decide (y < 0) = b := ⟨_, rfl⟩
  obtain ⟨nx, hnx⟩ : ∃ n, lenD x.natAbs = n := ⟨_, rfl⟩
  obtain ⟨ny, hny⟩ : ∃ n, lenD y.natAbs = n := ⟨_, rfl⟩
  have hxi : (bx = true ↔ x < 0) := by rw [← hbx]; simp
  have hyi : (by' = true ↔ y < 0) := by rw [← hby]; simp
  rw [hbx, hnx, hby, hny]
  rw [hnx] at hsx hlx
  rw [hny] at hsy hly
  have hb0 : Below w.heap.size w ((w.alloc (.cells #[.bool bx, .slice ax nx cx] 79)).alloc (.cells #[.bool by', .slice ay ny cy] 79)) := ((Below.refl _ w).alloc (Nat.le_refl _) _).alloc (by simp) _
  have hXV : NumIs ((w.alloc (.cells #[.bool bx, .slice ax nx cx] 79)).alloc (.cells #[.bool by', .slice ay ny cy] 79)) (.agg #[.bool bx, .slice ax nx cx]) x := by have := HXN.out.below hb0; rw [hbx, hnx] at this; exact this
  have hYV : NumIs ((w.alloc (.cells #[.bool bx, .slice ax nx cx] 79)).alloc (.cells #[.bool by', .slice ay ny cy] 79)) (.agg #[.bool by', .slice ay ny cy]) y := by have := HYN.out.below hb0; rw [hby, hny] at this; exact this
  have HS := hide (sub_any hXV hYV (by rw [hnx]; exact hlx) (by rw [hny]; exact hly))
  have HB0 := hide hb0
  clear hx hy hsx hsy hbx hby hnx hny hb0 hxi hyi hXV hYV HXN HYN hlx hly
  go_enter Tryz.func126, Tryz.ntmps126
  go_wp2_with fail
  (with_reducible refine HS.out.mono ?_)
  rintro e V ⟨⟨v, rfl, hv⟩, hb⟩
  obtain ⟨a, c, rfl, _⟩ := hv.form
  have HB := hide (HB0.out.trans (hb.mono HB0.out.size))
  clear hv hb HS HB0
  by_cases h1 : x < y
  · have hz : cmpZ x y = -1 := by unfold cmpZ; rw [if_pos h1]
    rw [show decide (x - y < 0) = true by simp; omega]
    have Hz := hide hz
    clear h1 hz
    go_wp2_with fail
    go_ret
    exact ⟨by rw [Hz.out]; rfl, HB.out.alloc HB.out.size _⟩
  · rw [show decide (x - y < 0) = false by simp; omega]
    by_cases h2 : x = y
    · have hz : cmpZ x y = 0 := by unfold cmpZ; rw [if_neg h1, if_pos h2]
      have hl : lenD (x - y).natAbs = 0 := by rw [show x - y = 0 by omega]; unfold lenD; rw [show (0 : Int).natAbs = 0 from rfl, dg_zero]; rfl
      rw [hl]
      have Hz := hide hz
      clear h1 h2 hz hl
      go_wp2_with fail
      go_ret
      exact ⟨by rw [Hz.out]; rfl, HB.out.alloc HB.out.size _⟩
    · have hz : cmpZ x y = 1 := by unfold cmpZ; rw [if_neg h1, if_neg h2]
      have hl : 0 < lenD (x - y).natAbs := by unfold lenD; rw [dg_pos (by omega)]; simp
      obtain ⟨n, hn⟩ : ∃ n, lenD (x - y).natAbs = n := ⟨_, rfl⟩
      rw [hn] at hl ⊢
      have Hz := hide hz
      have f1 : decide ((0 : Int) < (n : Int)) = true := decide_eq_true (by omega)
      clear h1 h2 hz hn
      go_wp2_with fail
      go_ret
      exact ⟨by rw [Hz.out]; rfl, HB.out.alloc HB.out.size _⟩
end Go.Proofs.YtgfakdobajgnfaaGreatDoor
