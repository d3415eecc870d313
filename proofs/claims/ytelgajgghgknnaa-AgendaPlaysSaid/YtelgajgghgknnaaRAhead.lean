/- The contract of witanref26.Ahead. -/
import Derived.Test.YtelgajgghgknnaaRVec
import Derived.Deep.RegionHeld3
namespace Go.Proofs.Ytelgajgghgknnaa
open Go Go.RowKit Go.MapKept Go.Sort

theorem below_redrew {w V : World} (h : Below w.heap.size w V) : Below w.drew.heap.size w.drew V := ⟨h.os, h.tape, h.output, h.size, h.block⟩

theorem heap2 (w : World) (o1 o2 : Obj) : ∃ W, (w.alloc o1).alloc o2 = W ∧ W.heap[w.heap.size]? = some o1 ∧ W.heap[w.heap.size + 1]? = some o2 ∧ W.heap.size = w.heap.size + 2 ∧ Below w.heap.size w W := by
  refine ⟨_, rfl, ?_, ?_, by simp, (((Only.refl [] w).alloc _).alloc _).below⟩
  · rw [Below.heap_alloc _ _ _ (by simp), (MapKept.heap_alloc w o1).1]
  · simpa using (MapKept.heap_alloc (w.alloc o1) o2).1

theorem cmpA_sal1 (s : Int) (a b : Ac) (h : a.sal ≠ b.sal) : decide (cmpA s a b < 0) = decide (b.sal < a.sal) := by
  unfold cmpA
  have : Lib.compareInt b.sal a.sal ≠ 0 := fun e => h ((compareInt_zero _ _).1 e).symm
  rw [if_pos this]
  unfold Lib.compareInt
  split
  · simp [*]
  · split <;> simp [*]
theorem cmpA_rec (s : Int) (a b : Ac) (h : a.sal = b.sal) (h2 : cmpL (vec s a.tup) (vec s b.tup) ≠ 0) : decide (cmpA s a b < 0) = (decide (cmpL (vec s a.tup) (vec s b.tup) < 0) == (s == 2)) := by
  unfold cmpA
  rw [if_neg (fun e => e ((compareInt_zero _ _).2 h.symm))]
  have hr := cmpL_range (vec s a.tup) (vec s b.tup)
  unfold recency
  by_cases hs : s = 2
  · rw [if_pos hs, if_pos h2]
    simp [hs]
  · rw [if_neg hs, if_pos (by omega)]
    have : (s == 2) = false := by simpa using hs
    rw [this]
    rcases hr with h | h | h <;> simp [h] at *
theorem cmpA_rule (s : Int) (a b : Ac) (h : a.sal = b.sal) (h2 : cmpL (vec s a.tup) (vec s b.tup) = 0) (h3 : a.rule ≠ b.rule) : decide (cmpA s a b < 0) = decide (a.rule < b.rule) := by
  unfold cmpA
  rw [if_neg (fun e => e ((compareInt_zero _ _).2 h.symm)), if_neg (fun e => e (by unfold recency; split <;> omega)), if_pos (fun e => h3 ((compareInt_zero _ _).1 e))]
  unfold Lib.compareInt
  split
  · simp [*]
  · split <;> simp [*]
theorem cmpA_tup (s : Int) (a b : Ac) (h : a.sal = b.sal) (h2 : cmpL (vec s a.tup) (vec s b.tup) = 0) (h3 : a.rule = b.rule) : decide (cmpA s a b < 0) = decide (cmpL a.tup b.tup < 0) := by
  unfold cmpA
  rw [if_neg (fun e => e ((compareInt_zero _ _).2 h.symm)), if_neg (fun e => e (by unfold recency; split <;> omega)), if_neg (fun e => e ((compareInt_zero _ _).2 h3))]

set_option maxHeartbeats 2000000 in
theorem rahead_any (s : Int) (a b : Ac) (w : World) (ha : NIs w a.x a.tup) (hb : NIs w b.x b.tup) :
    Calls Try.prog 20 #[.int .u8 s, a.val, b.val] w fun e w' => e = .returned (.bool (decide (cmpA s a b < 0))) ∧ Below w.heap.size w w' := by
  have k1 := cmpA_sal1 s a b
  have k2 := cmpA_rec s a b
  have k3 := cmpA_rule s a b
  have k4 := cmpA_tup s a b
  obtain ⟨res, hres⟩ : ∃ r, decide (cmpA s a b < 0) = r := ⟨_, rfl⟩
  rw [hres] at k1 k2 k3 k4 ⊢
  clear hres
  obtain ⟨ra, l, sa, xa⟩ := a
  obtain ⟨rb, m, sb, xb⟩ := b
  simp only at ha hb k1 k2 k3 k4
  obtain ⟨xaa, xac, rfl⟩ := ha.form
  obtain ⟨xba, xbc, rfl⟩ := hb.form
  have K1 := hide k1
  have K2 := hide k2
  have K3 := hide k3
  have K4 := hide k4
  obtain ⟨W, hW, h1, h2, hsz, hbW⟩ := heap2 w (Obj.cells #[.int .i64 ra, .slice xaa l.length xac, .int .i64 sa] 27) (Obj.cells #[.int .i64 rb, .slice xba m.length xbc, .int .i64 sb] 27)
  have Ha := hide (ha.below hbW)
  have Hb := hide (hb.below hbW)
  have a0 : W.cell? ⟨w.heap.size, 0, none⟩ = some (.int .i64 ra) := cellAt (i := 0) h1 rfl
  have a1 : W.cell? ⟨w.heap.size, 1, none⟩ = some (.slice xaa l.length xac) := cellAt (i := 1) h1 rfl
  have a2 : W.cell? ⟨w.heap.size, 2, none⟩ = some (.int .i64 sa) := cellAt (i := 2) h1 rfl
  have b0 : W.cell? ⟨w.heap.size + 1, 0, none⟩ = some (.int .i64 rb) := cellAt (i := 0) h2 rfl
  have b1 : W.cell? ⟨w.heap.size + 1, 1, none⟩ = some (.slice xba m.length xbc) := cellAt (i := 1) h2 rfl
  have b2 : W.cell? ⟨w.heap.size + 1, 2, none⟩ = some (.int .i64 sb) := cellAt (i := 2) h2 rfl
  have HW := hide hW
  have BW := hide hbW
  have z1 : w.heap.size < W.heap.size := by omega
  have z2 : w.heap.size + 1 < W.heap.size := by omega
  clear ha hb k1 k2 k3 k4 hW h1 h2 hbW
  unfold Ac.val
  by_cases hs : sa = sb
  · have hsb : (sa != sb) = false := by rw [hs]; simp
    have Hs := hide hs
    have HVa := hide (rvector_any s _ l W.drew (Ha.out.only0 ((Only.refl [] W).drew)))
    clear hs
    go_enter Try.func20, Try.ntmps20
    go_upto_region 1 with fail
    rw [HW.out]
    go_wp2_with fail
    have hC : ∀ V, Below W.drew.heap.size W.drew V → Below W.heap.size W V ∧ V.cell? ⟨w.heap.size, 1, none⟩ = some (.slice xaa l.length xac) ∧ V.cell? ⟨w.heap.size + 1, 1, none⟩ = some (.slice xba m.length xbc) := fun V hV => by
      have hV' : Below W.heap.size W V := ⟨hV.os, hV.tape, hV.output, hV.size, hV.block⟩
      exact ⟨hV', (hV'.cell (p := ⟨w.heap.size, 1, none⟩) z1).trans a1, (hV'.cell (p := ⟨w.heap.size + 1, 1, none⟩) z2).trans b1⟩
    have HC := hide hC
    clear hC
    go_region_held3 (fun V => V.cell? ⟨w.heap.size, 1, none⟩ = some (.slice xaa l.length xac) ∧ V.cell? ⟨w.heap.size + 1, 1, none⟩ = some (.slice xba m.length xbc)) (go_keep)
      (first
        | (go_at_call 38; have hq := HVa.out; with_reducible refine Calls.mono hq ?_; clear hq; rintro e V1 ⟨v1, rfl, hv1, hb1⟩; obtain ⟨va, vc, rfl⟩ := hv1.form; obtain ⟨y0, y1, y2⟩ := HC.out V1 hb1; have Hv1 := hide hv1; have Hb1 := hide hb1; have Y0 := hide y0; have Hq2 := hide (rvector_any s _ m V1 (Hb.out.below y0)); clear hv1 hb1 y0)
        | (go_at_call 38; have hq := Hq2.out; with_reducible refine Calls.mono hq ?_; clear hq; rintro e V2 ⟨v2, rfl, hv2, hb2⟩; obtain ⟨vb, vd, rfl⟩ := hv2.form; obtain ⟨x0, x1, x2⟩ := HC.out V2 (Hb1.out.trans (hb2.mono Hb1.out.size)); have X0 := hide x0; have Hq3 := hide (rows_any _ _ _ _ V2 (Hv1.out.below hb2) hv2); clear hv2 hb2 x0)
        | (go_at_call 36; have hq := Hq3.out; with_reducible refine Calls.mono hq ?_; clear hq; rintro e V3 ⟨rfl, hb3⟩; have X3 := hide (X0.out.trans (hb3.mono X0.out.size)); obtain ⟨_, u1, u2⟩ := HC.out V3 (below_redrew X3.out); clear hb3))
    have HA3 := hide (Ha.out.below X3.out)
    have HB3 := hide (Hb.out.below X3.out)
    have p0 := (X3.out.cell (p := ⟨w.heap.size, 0, none⟩) z1).trans a0
    have q0 := (X3.out.cell (p := ⟨w.heap.size + 1, 0, none⟩) z2).trans b0
    have HF := hide (BW.out.trans (X3.out.mono (by omega)))
    obtain ⟨c, hc⟩ : ∃ c, cmpL (vec s l) (vec s m) = c := ⟨_, rfl⟩
    rw [hc] at K2 K3 K4 ⊢
    clear hc x1 x2 y1 y2 HC HVa Hv1 Hb1 Y0 Hq2 X0 Hq3 K1 a0 a1 a2 b0 b1 b2
    by_cases h0 : c = 0
    · have h0b : (c != 0) = false := by rw [h0]; rfl
      have H0 := hide h0
      clear h0
      by_cases hr : ra = rb
      · have hrb : (ra != rb) = false := by rw [hr]; simp
        have Hr := hide hr
        have hrw := hide (rows_any _ _ l m V3 HA3.out HB3.out)
        clear hr
        go_wp2_with fail
        refine hrw.out.mono ?_
        rintro e V4 ⟨rfl, hb4⟩
        have HG := hide (HF.out.trans (hb4.mono HF.out.size))
        clear hb4
        go_wp2
        go_ret
        exact ⟨by rw [K4.out Hs.out H0.out Hr.out]; rfl, HG.out⟩
      · have hrb : (ra != rb) = true := by rw [bne_iff_ne]; exact hr
        have Hr := hide hr
        clear hr
        go_wp2
        go_ret
        exact ⟨by rw [K3.out Hs.out H0.out Hr.out]; rfl, HF.out⟩
    · have h0b : (c != 0) = true := by rw [bne_iff_ne]; exact h0
      have H0 := hide h0
      clear h0
      go_wp2
      go_ret
      exact ⟨by rw [K2.out Hs.out H0.out]; rfl, HF.out⟩
  · have hsb : (sa != sb) = true := by rw [bne_iff_ne]; exact hs
    have Hs := hide hs
    clear hs
    go_enter Try.func20, Try.ntmps20
    go_upto_region 1 with fail
    rw [HW.out]
    go_wp2
    go_ret
    exact ⟨by rw [K1.out Hs.out]; rfl, BW.out⟩
end Go.Proofs.Ytelgajgghgknnaa
