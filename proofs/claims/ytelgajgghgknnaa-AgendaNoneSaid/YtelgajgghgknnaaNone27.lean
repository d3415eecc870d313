/- The walk of witanlaw27.AgendaNone: an agenda that is not there. -/
import Derived.Test.YtelgajgghgknnaaKnown27
import Derived.Test.YtelgajgghgknnaaArgsA
namespace Go.Proofs.Ytelgajgghgknnaa
open Go Go.RowKit Go.MapKept Go.Sort

theorem change_none (vg vc : Value) (w : World) : Calls Try.prog 11 #[.pointer none, vg, vc] w fun r w' => r = .returned (.tuple #[]) ∧ w' = w := by
  go_enter Try.func11, Try.ntmps11
  go_wp2
  exact bodyPost_ret (v := .tuple #[]) (by simp [results, Try.results11, go_sem]) rfl ⟨rfl, rfl⟩

theorem list_none (w : World) : Calls Try.prog 17 #[.pointer none] w fun r w' => r = .returned (.slice none 0 0) ∧ w' = w := by
  go_enter Try.func17, Try.ntmps17
  go_wp2
  go_ret
  exact ⟨rfl, rfl⟩

theorem all_none (w : World) : Calls Try.prog 12 #[.pointer none] w fun r w' => r = .returned (.slice none 0 0) ∧ w' = w := by
  go_enter Try.func12, Try.ntmps12
  go_wp2
  go_ret
  exact ⟨rfl, rfl⟩

theorem copy_none (w : World) : Calls Try.prog 26 #[.pointer none] w fun r w' => r = .returned (.pointer none) ∧ w' = w := by
  go_enter Try.func26, Try.ntmps26
  go_wp2
  go_ret
  exact ⟨rfl, rfl⟩

theorem has_none (r : Int) (a : Option Addr) (n c : Nat) (s : Int) (w : World) : Calls Try.prog 13 #[.pointer none, .agg #[.int .i64 r, .slice a n c, .int .i64 s]] w fun r w' => r = .returned (.bool false) ∧ Below w.heap.size w w' := by
  go_enter Try.func13, Try.ntmps13
  go_wp2_with fail
  go_quiet (fail)
  go_wp2
  go_ret
  exact ⟨rfl, (((Only.refl [] w).alloc _).drewN nq).below⟩

theorem next_none (w : World) : Calls Try.prog 18 #[.pointer none] w fun r w' => r = .returned (.tuple #[.agg #[.int .i64 0, .slice none 0 0, .int .i64 0], .bool false]) ∧ Below w.heap.size w w' := by
  have hbox := heap_alloc0 w (Obj.cells #[.int .i64 0, .slice none 0 0, .int .i64 0] 27)
  obtain ⟨W, hW⟩ : ∃ W, w.alloc (Obj.cells #[.int .i64 0, .slice none 0 0, .int .i64 0] 27) = W := ⟨_, rfl⟩
  rw [hW] at hbox
  obtain ⟨c0, c1, c2, f0, f1, f2⟩ := cells3a hbox
  have hb : Below w.heap.size w W := by rw [← hW]; exact ((Only.refl [] w).alloc _).below
  have hz : w.heap.size < W.heap.size := by rw [← hW]; simp
  have HW := hide hW
  have HB := hide hb
  clear hW hbox hb
  go_enter Try.func18, Try.ntmps18
  go_upto_region 1 with fail
  rw [HW.out]
  go_wp2_with fail
  refine (list_none W).mono ?_
  rintro r V ⟨rfl, rfl⟩
  go_wp2
  refine bodyPost_ret (v := .tuple #[.agg #[.int .i64 0, .slice none 0 0, .int .i64 0], .bool false]) (by simp [results, Try.results18, go_sem, *]) rfl ?_
  exact ⟨rfl, ((HB.out.setCell (by simp) _).setCell (by simp) _).setCell (by simp) _⟩

theorem fire_none (r : Int) (a : Option Addr) (n c : Nat) (s : Int) (w : World) : Calls Try.prog 14 #[.pointer none, .agg #[.int .i64 r, .slice a n c, .int .i64 s]] w fun r w' => r = .returned (.bool false) ∧ Below w.heap.size w w' := by
  have hb : Below w.heap.size w (w.alloc (Obj.cells #[.int .i64 r, .slice a n c, .int .i64 s] 27)) := ((Only.refl [] w).alloc _).below
  have HB := hide hb
  clear hb
  go_enter Try.func14, Try.ntmps14
  go_wp2_with fail
  refine (has_none _ _ _ _ _ _).mono ?_
  rintro r V ⟨rfl, hb⟩
  have HF := hide (HB.out.trans (hb.mono (by simp)))
  clear hb
  go_wp2
  go_ret
  exact ⟨rfl, HF.out⟩

theorem fired_none (rx : Int) (xa : Option Addr) (xn xc : Nat) (sx : Int) (w : World) : Calls Try.prog 16 #[.pointer none, .agg #[.int .i64 rx, .slice xa xn xc, .int .i64 sx]] w fun r w' => r = .returned (.bool false) ∧ Below w.heap.size w w' := by
  obtain ⟨W, hW⟩ : ∃ W, w.alloc (Obj.cells #[.int .i64 rx, .slice xa xn xc, .int .i64 sx] 27) = W := ⟨_, rfl⟩
  have hb1 : Below w.heap.size w W := by rw [← hW]; exact ((Only.refl [] w).alloc _).below
  have hbox := heap_alloc0 w (Obj.cells #[.int .i64 rx, .slice xa xn xc, .int .i64 sx] 27)
  have hsz : W.heap.size = w.heap.size + 1 := by rw [← hW]; simp
  rw [hW] at hbox
  obtain ⟨c0, c1, c2, _⟩ := cells3a hbox
  have hkeep : ∀ V, Below W.drew.heap.size W.drew V → Below w.heap.size w V ∧ V.cell? ⟨w.heap.size, 0, none⟩ = some (.int .i64 rx) ∧ V.cell? ⟨w.heap.size, 1, none⟩ = some (.slice xa xn xc) ∧ V.cell? ⟨w.heap.size, 2, none⟩ = some (.int .i64 sx) := fun V hV =>
    have hz : w.heap.size < W.heap.size := by omega
    have hV' := below_undrew hV
    ⟨hb1.trans (hV'.mono (by omega)), (hV'.cell (p := ⟨w.heap.size, 0, none⟩) hz).trans c0, (hV'.cell (p := ⟨w.heap.size, 1, none⟩) hz).trans c1, (hV'.cell (p := ⟨w.heap.size, 2, none⟩) hz).trans c2⟩
  have HW := hide hW
  have Hkeep := hide hkeep
  have Hf := hide (has_none rx xa xn xc sx W.drew)
  clear hkeep hb1 hW hbox hsz
  go_enter Try.func16, Try.ntmps16
  go_upto_region 1 with fail
  rw [HW.out]
  go_wp2_with fail
  refine wp_region_noPanic ?_
  refine wp_region_held_drew (S := fun V => V.cell? ⟨w.heap.size, 0, none⟩ = some (.int .i64 rx) ∧ V.cell? ⟨w.heap.size, 1, none⟩ = some (.slice xa xn xc) ∧ V.cell? ⟨w.heap.size, 2, none⟩ = some (.int .i64 sx)) (by kernel_rfl) ?_ (fun hHeld => ?_)
  · (try dsimp only); go_keep
  refine wpAnyH_take (i := 0) (oi := ⟨some 5, _, _, _, _, _⟩) (v := ?v0) rfl (by kernel_rfl) (by kernel_rfl) (by kernel_rfl) (fun _ _ _ h => h) (Or.inl ⟨by rfl, ?h0⟩) (by assumption) ?r0
  case h0 => (intro w hSw; (try dsimp only at hSw); (first | (go_simp; done) | (go_simp; with_reducible rfl)))
  try simp only [Act.put, List.setIfInBounds_toArray, List.set_cons_zero, List.set_cons_succ]
  refine wpAnyH_take (i := 1) (oi := ⟨some 6, _, _, _, _, _⟩) (v := ?v1) rfl (by kernel_rfl) (by kernel_rfl) (by kernel_rfl) (fun _ _ _ h => h) (Or.inl ⟨by rfl, ?h1⟩) (by assumption) ?r1
  case h1 => (intro w hSw; (try dsimp only at hSw); (first | (go_simp; done) | (go_simp; with_reducible rfl)))
  try simp only [Act.put, List.setIfInBounds_toArray, List.set_cons_zero, List.set_cons_succ]
  refine wpAnyH_ready (rs := [2]) (by kernel_rfl) (by simp) ?_
  refine AllReadyH.cons (o := ⟨some 7, _, _, _, _, _⟩) (rs := []) rfl (fun K hK => ?_) AllReadyH.nil
  go_simp
  go_at_call 13
  refine Hf.out.mono ?_
  rintro r V ⟨rfl, hbV⟩
  obtain ⟨y0, y1, y2, y3⟩ := Hkeep.out V hbV
  have HbV := hide y0
  clear hbV y0
  try go_wp2_with fail
  clear hHeld
  refine hK.out _ _ ?_ (fun hHeld => ?_)
  · (try dsimp only); go_keep
  clear hK K
  try simp only [Act.put, List.setIfInBounds_toArray, List.set_cons_zero, List.set_cons_succ]
  refine wpAnyH_take (i := 3) (oi := ⟨some 8, _, _, _, _, _⟩) (v := ?v3) rfl (by kernel_rfl) (by kernel_rfl) (by kernel_rfl) (fun _ _ _ h => h) (Or.inl ⟨by rfl, ?h3⟩) (by assumption) ?r3
  case h3 => (intro w hSw; (try dsimp only at hSw); (first | (go_simp; done) | (go_simp; with_reducible rfl)))
  try simp only [Act.put, List.setIfInBounds_toArray, List.set_cons_zero, List.set_cons_succ]
  refine wpAnyH_take (i := 4) (oi := ⟨some 9, _, _, _, _, _⟩) rfl (by kernel_rfl) (by kernel_rfl) (by kernel_rfl) (fun _ _ _ h => h) (Or.inr ⟨by rfl, rfl⟩) (by assumption) ?_
  try simp only [Act.put, List.setIfInBounds_toArray, List.set_cons_zero, List.set_cons_succ]
  refine wpAnyH_take (i := 5) (oi := ⟨some 10, _, _, _, _, _⟩) rfl (by kernel_rfl) (by kernel_rfl) (by kernel_rfl) (fun _ _ _ h => h) (Or.inr ⟨by rfl, rfl⟩) (by assumption) ?_
  try simp only [Act.put, List.setIfInBounds_toArray, List.set_cons_zero, List.set_cons_succ]
  refine wpAnyH_take (i := 6) (oi := ⟨some 11, _, _, _, _, _⟩) rfl (by kernel_rfl) (by kernel_rfl) (by kernel_rfl) (fun _ _ _ h => h) (Or.inr ⟨by rfl, rfl⟩) (by assumption) ?_
  try simp only [Act.put, List.setIfInBounds_toArray, List.set_cons_zero, List.set_cons_succ]
  refine wpAnyH_take (i := 7) (oi := ⟨some 12, _, _, _, _, _⟩) rfl (by kernel_rfl) (by kernel_rfl) (by kernel_rfl) (fun _ _ _ h => h) (Or.inr ⟨by rfl, rfl⟩) (by assumption) ?_
  try simp only [Act.put, List.setIfInBounds_toArray, List.set_cons_zero, List.set_cons_succ]
  refine wpAnyH_take (i := 8) (oi := ⟨some 13, _, _, _, _, _⟩) rfl (by kernel_rfl) (by kernel_rfl) (by kernel_rfl) (fun _ _ _ h => h) (Or.inr ⟨by rfl, rfl⟩) (by assumption) ?_
  try simp only [Act.put, List.setIfInBounds_toArray, List.set_cons_zero, List.set_cons_succ]
  refine wpAnyH_take (i := 9) (oi := ⟨some 14, _, _, _, _, _⟩) rfl (by kernel_rfl) (by kernel_rfl) (by kernel_rfl) (fun _ _ _ h => h) (Or.inr ⟨by rfl, rfl⟩) (by assumption) ?_
  try simp only [Act.put, List.setIfInBounds_toArray, List.set_cons_zero, List.set_cons_succ]
  refine wpAnyH_take (i := 10) (oi := ⟨some 15, _, _, _, _, _⟩) rfl (by kernel_rfl) (by kernel_rfl) (by kernel_rfl) (fun _ _ _ h => h) (Or.inr ⟨by rfl, rfl⟩) (by assumption) ?_
  try simp only [Act.put, List.setIfInBounds_toArray, List.set_cons_zero, List.set_cons_succ]
  refine wpAnyH_take (i := 11) (oi := ⟨some 16, _, _, _, _, _⟩) rfl (by kernel_rfl) (by kernel_rfl) (by kernel_rfl) (fun _ _ _ h => h) (Or.inr ⟨by rfl, rfl⟩) (by assumption) ?_
  try simp only [Act.put, List.setIfInBounds_toArray, List.set_cons_zero, List.set_cons_succ]
  refine wpAnyH_take (i := 12) (oi := ⟨some 17, _, _, _, _, _⟩) rfl (by kernel_rfl) (by kernel_rfl) (by kernel_rfl) (fun _ _ _ h => h) (Or.inr ⟨by rfl, rfl⟩) (by assumption) ?_
  try simp only [Act.put, List.setIfInBounds_toArray, List.set_cons_zero, List.set_cons_succ]
  refine wpAnyH_take (i := 13) (oi := ⟨some 18, _, _, _, _, _⟩) rfl (by kernel_rfl) (by kernel_rfl) (by kernel_rfl) (fun _ _ _ h => h) (Or.inr ⟨by rfl, rfl⟩) (by assumption) ?_
  try simp only [Act.put, List.setIfInBounds_toArray, List.set_cons_zero, List.set_cons_succ]
  refine wpAnyH_take (i := 14) (oi := ⟨some 19, _, _, _, _, _⟩) rfl (by kernel_rfl) (by kernel_rfl) (by kernel_rfl) (fun _ _ _ h => h) (Or.inr ⟨by rfl, rfl⟩) (by assumption) ?_
  try simp only [Act.put, List.setIfInBounds_toArray, List.set_cons_zero, List.set_cons_succ]
  refine wpAnyH_take (i := 15) (oi := ⟨some 20, _, _, _, _, _⟩) rfl (by kernel_rfl) (by kernel_rfl) (by kernel_rfl) (fun _ _ _ h => h) (Or.inr ⟨by rfl, rfl⟩) (by assumption) ?_
  try simp only [Act.put, List.setIfInBounds_toArray, List.set_cons_zero, List.set_cons_succ]
  refine wpAnyH_take (i := 16) (oi := ⟨some 21, _, _, _, _, _⟩) rfl (by kernel_rfl) (by kernel_rfl) (by kernel_rfl) (fun _ _ _ h => h) (Or.inr ⟨by rfl, rfl⟩) (by assumption) ?_
  try simp only [Act.put, List.setIfInBounds_toArray, List.set_cons_zero, List.set_cons_succ]
  refine wpAnyH_take (i := 17) (oi := ⟨some 22, _, _, _, _, _⟩) (v := ?v17) rfl (by kernel_rfl) (by kernel_rfl) (by kernel_rfl) (fun _ _ _ h => h) (Or.inl ⟨by rfl, ?h17⟩) (by assumption) ?r17
  case h17 => (intro w hSw; (try dsimp only at hSw); (first | (go_simp; done) | (go_simp; with_reducible rfl)))
  try simp only [Act.put, List.setIfInBounds_toArray, List.set_cons_zero, List.set_cons_succ]
  refine wpAnyH_take (i := 18) (oi := ⟨some 4, _, _, _, _, _⟩) (v := ?v18) rfl (by kernel_rfl) (by kernel_rfl) (by kernel_rfl) (fun _ _ _ h => h) (Or.inl ⟨by rfl, ?h18⟩) (by assumption) ?r18
  case h18 => (intro w hSw; (try dsimp only at hSw); (first | (go_simp; done) | (go_simp; with_reducible rfl)))
  try simp only [Act.put, List.setIfInBounds_toArray, List.set_cons_zero, List.set_cons_succ]
  refine wpAnyH_done (by kernel_rfl) ?_ _
  refine NoPanic.normal ?_
  go_wp2
  go_ret
  exact ⟨rfl, HbV.out⟩

set_option maxRecDepth 100000 in
set_option maxHeartbeats 2000000 in
theorem none27_walk (v : Value) (w : World) (r : Int) (a : Option Addr) (n c : Nat) (s : Int) (h : ActIs w v r a n c s) :
    Calls Try.prog 7 #[v] w fun e w' => e = .returned (.bool true) ∧ Below w.heap.size w w' := by
  obtain ⟨rfl, _, _⟩ := h
  obtain ⟨W, hW, h1, h2, hsz, hbW⟩ := heap2 w (Obj.cells #[.int .i64 r, .slice a n c, .int .i64 s] 27) (Obj.cells #[.int .i64 r, .slice a n c, .int .i64 s] 27)
  have z1 : w.heap.size < W.heap.size := by omega
  have a0 : W.cell? ⟨w.heap.size, 0, none⟩ = some (.int .i64 r) := cellAt (i := 0) h1 rfl
  have a1 : W.cell? ⟨w.heap.size, 1, none⟩ = some (.slice a n c) := cellAt (i := 1) h1 rfl
  have a2 : W.cell? ⟨w.heap.size, 2, none⟩ = some (.int .i64 s) := cellAt (i := 2) h1 rfl
  have Cells : Hid (∀ V, Below W.heap.size W V → V.cell? ⟨w.heap.size, 0, none⟩ = some (.int .i64 r) ∧ V.cell? ⟨w.heap.size, 1, none⟩ = some (.slice a n c) ∧ V.cell? ⟨w.heap.size, 2, none⟩ = some (.int .i64 s)) := fun V hV =>
    ⟨(hV.cell (p := ⟨w.heap.size, 0, none⟩) z1).trans a0, (hV.cell (p := ⟨w.heap.size, 1, none⟩) z1).trans a1, (hV.cell (p := ⟨w.heap.size, 2, none⟩) z1).trans a2⟩
  have HW := hide hW
  have BW := hide hbW
  clear hW h1 h2 hbW a0 a1 a2
  go_enter Try.func7, Try.ntmps7
  go_wp2_with fail
  rw [HW.out]
  refine (change_none _ _ W).mono ?_
  rintro e V ⟨rfl, rfl⟩
  go_wp2_with fail
  refine (next_none V).mono ?_
  rintro e V1 ⟨rfl, hb1⟩
  have o2 : Below V1.heap.size V1 (V1.alloc (Obj.cells #[.int .i64 0, .slice none 0 0, .int .i64 0] 27)) := ((Only.refl [] V1).alloc _).below
  obtain ⟨V2, hV2⟩ : ∃ V2, V1.alloc (Obj.cells #[.int .i64 0, .slice none 0 0, .int .i64 0] 27) = V2 := ⟨_, rfl⟩
  rw [hV2] at o2
  have hb2 := hb1.trans (o2.mono hb1.size)
  obtain ⟨d0, d1, d2⟩ := Cells.out V2 hb2
  have HV2 := hide hV2
  have HB2 := hide hb2
  clear o2 hV2 hb1 hb2
  go_upto_region 4 with fail
  rw [HV2.out]
  go_wp2_with fail
  refine (fire_none _ _ _ _ _ V2).mono ?_
  rintro e V3 ⟨rfl, hb3⟩
  have HB3 := hide (HB2.out.trans (hb3.mono HB2.out.size))
  clear hb3 d0 d1 d2
  obtain ⟨d0, d1, d2⟩ := Cells.out V3 HB3.out
  go_wp2_with fail
  refine (has_none _ _ _ _ _ V3).mono ?_
  rintro e V4 ⟨rfl, hb4⟩
  have HB4 := hide (HB3.out.trans (hb4.mono HB3.out.size))
  clear hb4 d0 d1 d2
  obtain ⟨d0, d1, d2⟩ := Cells.out V4 HB4.out
  go_wp2_with fail
  refine (fired_none _ _ _ _ _ V4).mono ?_
  rintro e V5 ⟨rfl, hb5⟩
  have HB5 := hide (HB4.out.trans (hb5.mono HB4.out.size))
  clear hb5 d0 d1 d2
  go_wp2_with fail
  refine (list_none V5).mono ?_
  rintro e V6 ⟨rfl, rfl⟩
  go_wp2_with fail
  refine (all_none V6).mono ?_
  rintro e V7 ⟨rfl, rfl⟩
  go_wp2_with fail
  refine (copy_none V7).mono ?_
  rintro e V8 ⟨rfl, rfl⟩
  go_wp2_with (go_at_call 9; refine (known27_walk _).mono ?_; rintro e w' ⟨rfl, hk⟩)
  go_ret
  exact ⟨rfl, BW.out.trans ((HB5.out.trans (hk.mono HB5.out.size)).mono (by omega))⟩
end Go.Proofs.Ytelgajgghgknnaa
