/- Where an entry is laid: slices.BinarySearchFunc of entries (no more is said of the place than that there is one). -/
import Derived.Test.YtelgajgghgknnaaEn
import Derived.Test.YtelgajgghgknnaaRAhead
namespace Go.Proofs.Ytelgajgghgknnaa
open Go Go.RowKit Go.MapKept Go.Sort

set_option maxHeartbeats 1000000 in
theorem layc_any (ps b : Nat) (s : Int) (e : En) (x : Ac) (w : World) (hp : w.cell? ⟨ps, 0, none⟩ = some (.pointer (some ⟨b, 0, none⟩))) (hs : w.cell? ⟨b, 0, none⟩ = some (.int .u8 s)) (he : NIs w e.ac.x e.ac.tup) (hx : NIs w x.x x.tup) :
    Calls Try.prog 45 #[e.val, x.val, .pointer (some ⟨ps, 0, none⟩)] w fun r w' => r = .returned (.int .i64 (cmpA s e.ac x)) ∧ Below w.heap.size w w' := by
  obtain ⟨⟨re, le, se, xe⟩, fe⟩ := e
  obtain ⟨rx, lx, sx, vx⟩ := x
  simp only at he hx
  obtain ⟨ea, ec, rfl⟩ := he.form
  obtain ⟨xa, xc, rfl⟩ := hx.form
  obtain ⟨W, hW, h1, h2, hsz, hbW⟩ := heap2 w (Obj.cells #[.int .i64 re, .slice ea le.length ec, .int .i64 se, .bool fe] 61) (Obj.cells #[.int .i64 rx, .slice xa lx.length xc, .int .i64 sx] 27)
  have hlt := lt_of_cell hp
  have hlt2 := lt_of_cell hs
  simp only at hlt hlt2
  have p0 := (hbW.cell (p := ⟨ps, 0, none⟩) hlt).trans hp
  have p1 := (hbW.cell (p := ⟨b, 0, none⟩) hlt2).trans hs
  have a0 : W.cell? ⟨w.heap.size, 0, none⟩ = some (.int .i64 re) := cellAt (i := 0) h1 rfl
  have a1 : W.cell? ⟨w.heap.size, 1, none⟩ = some (.slice ea le.length ec) := cellAt (i := 1) h1 rfl
  have a2 : W.cell? ⟨w.heap.size, 2, none⟩ = some (.int .i64 se) := cellAt (i := 2) h1 rfl
  have b0 : W.cell? ⟨w.heap.size + 1, 0, none⟩ = some (.int .i64 rx) := cellAt (i := 0) h2 rfl
  have b1 : W.cell? ⟨w.heap.size + 1, 1, none⟩ = some (.slice xa lx.length xc) := cellAt (i := 1) h2 rfl
  have b2 : W.cell? ⟨w.heap.size + 1, 2, none⟩ = some (.int .i64 sx) := cellAt (i := 2) h2 rfl
  have oD : Below W.heap.size W W.drew := (Only.drew (Only.refl [] W)).below
  have z1 : ps < W.heap.size := by omega
  have z2 : b < W.heap.size := by omega
  have z3 : w.heap.size < W.heap.size := by omega
  have z4 : w.heap.size + 1 < W.heap.size := by omega
  have Cells : Hid (∀ V, Below W.heap.size W V → V.cell? ⟨ps, 0, none⟩ = some (.pointer (some ⟨b, 0, none⟩)) ∧ V.cell? ⟨b, 0, none⟩ = some (.int .u8 s) ∧ V.cell? ⟨w.heap.size, 0, none⟩ = some (.int .i64 re) ∧ V.cell? ⟨w.heap.size, 1, none⟩ = some (.slice ea le.length ec) ∧ V.cell? ⟨w.heap.size, 2, none⟩ = some (.int .i64 se) ∧ V.cell? ⟨w.heap.size + 1, 0, none⟩ = some (.int .i64 rx) ∧ V.cell? ⟨w.heap.size + 1, 1, none⟩ = some (.slice xa lx.length xc) ∧ V.cell? ⟨w.heap.size + 1, 2, none⟩ = some (.int .i64 sx)) := fun V hV =>
    ⟨(hV.cell (p := ⟨ps, 0, none⟩) z1).trans p0, (hV.cell (p := ⟨b, 0, none⟩) z2).trans p1, (hV.cell (p := ⟨w.heap.size, 0, none⟩) z3).trans a0, (hV.cell (p := ⟨w.heap.size, 1, none⟩) z3).trans a1, (hV.cell (p := ⟨w.heap.size, 2, none⟩) z3).trans a2, (hV.cell (p := ⟨w.heap.size + 1, 0, none⟩) z4).trans b0, (hV.cell (p := ⟨w.heap.size + 1, 1, none⟩) z4).trans b1, (hV.cell (p := ⟨w.heap.size + 1, 2, none⟩) z4).trans b2⟩
  have hc := compare_any s ⟨re, le, se, .slice ea le.length ec⟩ ⟨rx, lx, sx, .slice xa lx.length xc⟩ W.drew ((he.below hbW).below oD) ((hx.below hbW).below oD)
  unfold Ac.val at hc
  have Hc := hide hc
  have HW := hide hW
  have BW := hide (hbW.trans (oD.mono (by omega)))
  clear hc hW hbW oD he hx h1 h2 hp hs
  unfold En.val Ac.val
  obtain ⟨q, hq⟩ : ∃ q, cmpA s ⟨re, le, se, .slice ea le.length ec⟩ ⟨rx, lx, sx, .slice xa lx.length xc⟩ = q := ⟨_, rfl⟩
  simp only
  rw [hq] at Hc ⊢
  clear hq
  go_enter Try.func45, Try.ntmps45
  go_upto_region 1 with fail
  rw [HW.out]
  go_wp2_with fail
  go_region_held3 (fun V => V.cell? ⟨ps, 0, none⟩ = some (.pointer (some ⟨b, 0, none⟩)) ∧ V.cell? ⟨b, 0, none⟩ = some (.int .u8 s) ∧ V.cell? ⟨w.heap.size, 0, none⟩ = some (.int .i64 re) ∧ V.cell? ⟨w.heap.size, 1, none⟩ = some (.slice ea le.length ec) ∧ V.cell? ⟨w.heap.size, 2, none⟩ = some (.int .i64 se) ∧ V.cell? ⟨w.heap.size + 1, 0, none⟩ = some (.int .i64 rx) ∧ V.cell? ⟨w.heap.size + 1, 1, none⟩ = some (.slice xa lx.length xc) ∧ V.cell? ⟨w.heap.size + 1, 2, none⟩ = some (.int .i64 sx)) (go_keep)
    ((go_at_call 46; have hqq := Hc.out; with_reducible refine Calls.mono hqq ?_; clear hqq; rintro r V ⟨rfl, hbV⟩; have HbV := hide hbV; clear hbV; obtain ⟨y0, y1, y2, y3, y4, y5, y6, y7⟩ := Cells.out V (below_undrew HbV.out)))
  have HF := hide (BW.out.trans (HbV.out.mono (by have := BW.out.size; simpa using this)))
  go_wp2
  go_ret
  exact ⟨rfl, HF.out⟩

theorem ens_cells4 {B : Nat} {W : World} {g n cap : Nat} {ya : Option Addr} {yc : Nat} {l : List En} (H : EnsIs B W (.slice (some ⟨g, 0, none⟩) n cap) l) {h : Nat} (hh : h < l.length) (hex : l[h].ac.x = .slice ya l[h].ac.tup.length yc) :
    ∀ V, Below W.heap.size W V → V.cell? ⟨g, h * 4, none⟩ = some (.int .i64 l[h].ac.rule) ∧ V.cell? ⟨g, h * 4 + 1, none⟩ = some (.slice ya l[h].ac.tup.length yc) ∧ V.cell? ⟨g, h * 4 + 2, none⟩ = some (.int .i64 l[h].ac.sal) ∧ V.cell? ⟨g, h * 4 + 3, none⟩ = some (.bool l[h].fired) := fun V hV => by
  obtain ⟨g', cap', xa, xc, e, _, _, _, hx, c, _⟩ := (H.below hV).at hh
  injection e with e1 e2 e3
  injection e1 with e1
  injection e1 with e1 e4 e5
  subst e1
  rw [hex] at hx
  injection hx with q1 q2 q3
  subst q1 q3
  exact c

theorem heap_alloc0 (w : World) (o : Obj) : (w.alloc o).heap[w.heap.size]? = some o := (MapKept.heap_alloc w o).1

set_option maxRecDepth 100000 in
set_option maxHeartbeats 2000000 in
theorem bsearch_any (B ps b : Nat) (s : Int) (v : Value) (l : List En) (x : Ac) (w : World) (h : EnsIs B w v l) (hp : w.cell? ⟨ps, 0, none⟩ = some (.pointer (some ⟨b, 0, none⟩))) (hs : w.cell? ⟨b, 0, none⟩ = some (.int .u8 s)) (hx : NIs w x.x x.tup) :
    Calls Try.prog 44 #[v, x.val, .func (.func 45) #[] #[.pointer (some ⟨ps, 0, none⟩)]] w fun r w' => ∃ (i : Nat) (p : Bool), r = .returned (.tuple #[.int .i64 i, .bool p]) ∧ i ≤ l.length ∧ Below w.heap.size w w' := by
  obtain ⟨va, vc, rfl, hvc⟩ := h.form
  have hlen := h.len
  obtain ⟨rx, lx, sx, vx⟩ := x
  simp only at hx
  obtain ⟨xa, xc, rfl⟩ := hx.form
  have hb1 : Below w.heap.size w (w.alloc (Obj.cells #[.int .i64 rx, .slice xa lx.length xc, .int .i64 sx] 27)) := ((Only.refl [] w).alloc _).below
  obtain ⟨W, hW⟩ : ∃ W, w.alloc (Obj.cells #[.int .i64 rx, .slice xa lx.length xc, .int .i64 sx] 27) = W := ⟨_, rfl⟩
  obtain ⟨k0, k1, k2, _⟩ := cells3a (heap_alloc0 w (Obj.cells #[.int .i64 rx, .slice xa lx.length xc, .int .i64 sx] 27))
  have hsz : W.heap.size = w.heap.size + 1 := by rw [← hW]; simp
  rw [hW] at hb1 k0 k1 k2
  have hlt := lt_of_cell hp
  have hlt2 := lt_of_cell hs
  simp only at hlt hlt2
  have p0 := (hb1.cell (p := ⟨ps, 0, none⟩) hlt).trans hp
  have p1 := (hb1.cell (p := ⟨b, 0, none⟩) hlt2).trans hs
  have H := hide (h.below hb1)
  have HX := hide (hx.below hb1)
  have P0 := hide p0
  have P1 := hide p1
  have K0 := hide k0
  have K1 := hide k1
  have K2 := hide k2
  have HW := hide hW
  have HB1 := hide hb1
  have Hsz := hide hsz
  have hcell : ∀ wr, Below W.heap.size W wr → (wr.cell? ⟨w.heap.size, 0, none⟩ = some (.int .i64 rx) ∧ wr.cell? ⟨w.heap.size, 1, none⟩ = some (.slice xa lx.length xc) ∧ wr.cell? ⟨w.heap.size, 2, none⟩ = some (.int .i64 sx)) := fun wr hb =>
    ⟨(hb.cell (p := ⟨w.heap.size, 0, none⟩) (by rw [Hsz.out]; exact Nat.lt_succ_self _)).trans K0.out, (hb.cell (p := ⟨w.heap.size, 1, none⟩) (by rw [Hsz.out]; exact Nat.lt_succ_self _)).trans K1.out, (hb.cell (p := ⟨w.heap.size, 2, none⟩) (by rw [Hsz.out]; exact Nat.lt_succ_self _)).trans K2.out⟩
  have hcall : ∀ wr, Below W.heap.size W wr → ∀ e ∈ l, Calls Try.prog 45 #[e.val, (⟨rx, lx, sx, .slice xa lx.length xc⟩ : Ac).val, .pointer (some ⟨ps, 0, none⟩)] wr fun r w' => r = .returned (.int .i64 (cmpA s e.ac ⟨rx, lx, sx, .slice xa lx.length xc⟩)) ∧ Below W.heap.size W w' := fun wr hb e he =>
    (layc_any ps b s e ⟨rx, lx, sx, .slice xa lx.length xc⟩ wr ((hb.cell (p := ⟨ps, 0, none⟩) (by rw [Hsz.out]; exact Nat.lt_succ_of_lt hlt)).trans P0.out) ((hb.cell (p := ⟨b, 0, none⟩) (by rw [Hsz.out]; exact Nat.lt_succ_of_lt hlt2)).trans P1.out) ((H.out.below hb).nis he) (HX.out.below hb)).mono fun r w' ⟨h1, h2⟩ => ⟨h1, hb.trans (h2.mono hb.size)⟩
  have Hcell := hide hcell
  have Hcall := hide hcall
  clear h hx hp hs hb1 k0 k1 k2 p0 p1 hW hsz hcell hcall
  unfold Ac.val
  go_enter Try.func44, Try.ntmps44
  go_upto_region 1 with fail
  rw [HW.out]
  go_wp2_with fail
  go_loopw [9, 10] (fun vi vj wr => ∃ i j : Nat, i ≤ j ∧ j ≤ l.length ∧ vi = .int .i64 i ∧ vj = .int .i64 j ∧ Hid (Below W.heap.size W wr)) (fun i j _ => (intOf j - intOf i).toNat)
  case atStart => exact ⟨0, l.length, by omega, Nat.le_refl _, rfl, rfl, Below.refl _ _⟩
  case round =>
    obtain ⟨i, j, hij, hj, rfl, rfl, hb⟩ := hrel
    by_cases hlt3 : i < j
    · obtain ⟨h, hh⟩ : ∃ h : Nat, h = (i + j) / 2 := ⟨_, rfl⟩
      have b1 : i ≤ h := by omega
      have b2 : h < j := by omega
      have b3 : h < l.length := by omega
      have eh : ((i : Int) + (j : Int)) / 2 = (h : Int) := by omega
      have hbd : Below W.heap.size W wr.drew := ⟨hb.out.os, hb.out.tape, hb.out.output, hb.out.size, hb.out.block⟩
      obtain ⟨g, cap, ya, yc, e, _, _, _, hex, ⟨c0, c1, c2, c3⟩, _⟩ := (H.out.below hb.out).at b3
      injection e with e1 e2 e3
      subst e1 e3
      clear e2
      obtain ⟨d0, d1, d2⟩ := Hcell.out wr hb.out
      have Hc4 := hide (ens_cells4 H.out b3 hex)
      have hc := Hcall.out _ hbd l[h] (List.getElem_mem b3)
      obtain ⟨q, hq⟩ : ∃ q, cmpA s l[h].ac ⟨rx, lx, sx, .slice xa lx.length xc⟩ = q := ⟨_, rfl⟩
      rw [hq] at hc
      unfold En.val Ac.val at hc
      rw [hex] at hc
      have Hc := hide hc
      have Eh := hide eh
      have Hh := hide hh
      clear hc eh hh hq hbd hex
      go_wp2_with fail
      rw [Eh.out]
      have i1 : (0 : Int) ≤ (h : Int) := by omega
      have i2 : (h : Int) < (l.length : Int) := by omega
      go_region_held3 (fun V => V.cell? ⟨g, h * 4, none⟩ = some (.int .i64 l[h].ac.rule) ∧ V.cell? ⟨g, h * 4 + 1, none⟩ = some (.slice ya l[h].ac.tup.length yc) ∧ V.cell? ⟨g, h * 4 + 2, none⟩ = some (.int .i64 l[h].ac.sal) ∧ V.cell? ⟨g, h * 4 + 3, none⟩ = some (.bool l[h].fired) ∧ V.cell? ⟨w.heap.size, 0, none⟩ = some (.int .i64 rx) ∧ V.cell? ⟨w.heap.size, 1, none⟩ = some (.slice xa lx.length xc) ∧ V.cell? ⟨w.heap.size, 2, none⟩ = some (.int .i64 sx)) (go_keep)
        ((go_at_call 45; have hqq := Hc.out; with_reducible refine Calls.mono hqq ?_; clear hqq; rintro r V ⟨rfl, hbV⟩; obtain ⟨y0, y1, y2⟩ := Hcell.out V hbV; obtain ⟨x0, x1, x2, x3⟩ := Hc4.out V hbV; have HbV := hide hbV; clear hbV))
      clear c0 c1 c2 c3 d0 d1 d2 i1 i2 Hc
      by_cases hneg : q < 0
      · go_wp2
        go_roundw
        case rel => exact ⟨h + 1, j, by omega, by omega, by go_num, rfl, HbV.out⟩
        case measure => simp [intOf]; omega
      · go_wp2
        go_roundw
        case rel => exact ⟨i, h, by omega, by omega, rfl, rfl, HbV.out⟩
        case measure => simp [intOf]; omega
    · obtain rfl : i = j := by omega
      by_cases hil : i < l.length
      · have hbd : Below W.heap.size W wr.drew := ⟨hb.out.os, hb.out.tape, hb.out.output, hb.out.size, hb.out.block⟩
        obtain ⟨g, cap, ya, yc, e, _, _, _, hex, ⟨c0, c1, c2, c3⟩, _⟩ := (H.out.below hb.out).at hil
        injection e with e1 e2 e3
        subst e1 e3
        clear e2
        obtain ⟨d0, d1, d2⟩ := Hcell.out wr hb.out
        have Hc4 := hide (ens_cells4 H.out hil hex)
        have hc := Hcall.out _ hbd l[i] (List.getElem_mem hil)
        obtain ⟨q, hq⟩ : ∃ q, cmpA s l[i].ac ⟨rx, lx, sx, .slice xa lx.length xc⟩ = q := ⟨_, rfl⟩
        rw [hq] at hc
        unfold En.val Ac.val at hc
        rw [hex] at hc
        have Hc := hide hc
        have i2 : decide ((i : Int) < (l.length : Int)) = true := decide_eq_true (by omega)
        have i3 : (i : Int) < (l.length : Int) := by omega
        have i4 : (0 : Int) ≤ (i : Int) := by omega
        clear hc hq hbd hex
        go_wp2_with fail
        go_region_held3 (fun V => V.cell? ⟨g, i * 4, none⟩ = some (.int .i64 l[i].ac.rule) ∧ V.cell? ⟨g, i * 4 + 1, none⟩ = some (.slice ya l[i].ac.tup.length yc) ∧ V.cell? ⟨g, i * 4 + 2, none⟩ = some (.int .i64 l[i].ac.sal) ∧ V.cell? ⟨g, i * 4 + 3, none⟩ = some (.bool l[i].fired) ∧ V.cell? ⟨w.heap.size, 0, none⟩ = some (.int .i64 rx) ∧ V.cell? ⟨w.heap.size, 1, none⟩ = some (.slice xa lx.length xc) ∧ V.cell? ⟨w.heap.size, 2, none⟩ = some (.int .i64 sx)) (go_keep)
          ((go_at_call 45; have hqq := Hc.out; with_reducible refine Calls.mono hqq ?_; clear hqq; rintro r V ⟨rfl, hbV⟩; obtain ⟨y0, y1, y2⟩ := Hcell.out V hbV; obtain ⟨x0, x1, x2, x3⟩ := Hc4.out V hbV; have HbV := hide hbV; clear hbV))
        have HF := hide (HB1.out.trans (HbV.out.mono (by have := HB1.out.size; omega)))
        go_wp2
        go_ret2
        exact ⟨i, _, rfl, by omega, HF.out⟩
      · have i2 : decide ((i : Int) < (l.length : Int)) = false := decide_eq_false (by omega)
        have HF := hide (HB1.out.trans (hb.out.mono (by have := HB1.out.size; omega)))
        go_wp2_with fail
        go_quiet (fail)
        have HF2 := hide (below_drewN HF.out nq)
        go_wp2
        go_ret2
        exact ⟨i, _, rfl, by omega, HF2.out⟩
end Go.Proofs.Ytelgajgghgknnaa
