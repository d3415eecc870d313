/- The contracts of witanref27's has and less. -/
import Derived.Test.YtelgajgghgknnaaOnce
namespace Go.Proofs.Ytelgajgghgknnaa
open Go Go.RowKit Go.MapKept Go.Sort

set_option maxRecDepth 100000 in
set_option maxHeartbeats 2000000 in
theorem rhas_any (v : Value) (L : List Ac) (x : Ac) (w : World) (h : ActsIs w v L) (hx : NIs w x.x x.tup) :
    Calls Try.prog 40 #[v, x.val] w fun r w' => r = .returned (.bool (L.any fun a => a.same x)) ∧ Below w.heap.size w w' := by
  obtain ⟨va, vc, rfl⟩ := h.form
  have hLl := h.len
  obtain ⟨rx, lx, sx, vx⟩ := x
  simp only at hx
  obtain ⟨xa, xc, rfl⟩ := hx.form
  obtain ⟨W, hW⟩ : ∃ W, w.alloc (Obj.cells #[.int .i64 rx, .slice xa lx.length xc, .int .i64 sx] 27) = W := ⟨_, rfl⟩
  have hb1 : Below w.heap.size w W := by rw [← hW]; exact ((Only.refl [] w).alloc _).below
  have hbox := heap_alloc0 w (Obj.cells #[.int .i64 rx, .slice xa lx.length xc, .int .i64 sx] 27)
  have hsz : W.heap.size = w.heap.size + 1 := by rw [← hW]; simp
  rw [hW] at hbox
  obtain ⟨b0, b1, b2, _⟩ := cells3a hbox
  have hX : ∀ V, Below W.heap.size W V → NIs V (.slice xa lx.length xc) lx ∧ V.cell? ⟨w.heap.size, 0, none⟩ = some (.int .i64 rx) ∧ V.cell? ⟨w.heap.size, 1, none⟩ = some (.slice xa lx.length xc) ∧ V.cell? ⟨w.heap.size, 2, none⟩ = some (.int .i64 sx) := fun V hV => by
    have hz : w.heap.size < W.heap.size := by omega
    exact ⟨(hx.below hb1).below hV, (hV.cell (p := ⟨w.heap.size, 0, none⟩) hz).trans b0, (hV.cell (p := ⟨w.heap.size, 1, none⟩) hz).trans b1, (hV.cell (p := ⟨w.heap.size, 2, none⟩) hz).trans b2⟩
  have HX := hide hX
  have HL := hide (h.below hb1)
  have HW := hide hW
  have HB1 := hide hb1
  clear h hx hW hb1 hbox hsz b0 b1 b2 hX
  unfold Ac.val
  go_enter Try.func40, Try.ntmps40
  go_upto_region 1 with fail
  rw [HW.out]
  go_wp2_with fail
  go_loopw [5] (fun vi wr => ∃ k : Nat, k ≤ L.length ∧ vi = .int .i64 k ∧ Hid ((L.take k).any (fun a => a.same ⟨rx, lx, sx, .slice xa lx.length xc⟩) = false) ∧ Hid (Below W.heap.size W wr)) (fun i _ => L.length - (intOf i).toNat)
  case atStart => exact ⟨0, Nat.zero_le _, rfl, by simp [hide], Below.refl _ _⟩
  case round =>
    obtain ⟨k, hk, rfl, hq, hb⟩ := hrel
    by_cases hlk : k < L.length
    · have hLr := HL.out.below hb.out
      obtain ⟨gb, off, cap, ya, yc, e, hy, c0, c1, c2⟩ := hLr.at hlk
      injection e with e1 e2 e3
      subst e1 e3
      clear e2
      have hyn := hLr.tups _ (List.getElem_mem hlk)
      have htk := List.take_succ_eq_append_getElem hlk
      obtain ⟨Y, hYd⟩ : ∃ Y, L[k] = Y := ⟨_, rfl⟩
      rw [hYd] at hy c0 c1 c2 hyn htk
      obtain ⟨ry, ty, sy, ay⟩ := Y
      simp only at hy c0 c1 c2 hyn
      subst hy
      have hbd : Below W.heap.size W wr.drew := ⟨hb.out.os, hb.out.tape, hb.out.output, hb.out.size, hb.out.block⟩
      have oD : Below wr.heap.size wr wr.drew := (Only.drew (Only.refl [] wr)).below
      have hsm := rsame_any ⟨ry, ty, sy, .slice ya ty.length yc⟩ ⟨rx, lx, sx, .slice xa lx.length xc⟩ wr.drew (hyn.below oD) (HX.out _ hbd).1
      obtain ⟨p, hp⟩ : ∃ p, (⟨ry, ty, sy, .slice ya ty.length yc⟩ : Ac).same ⟨rx, lx, sx, .slice xa lx.length xc⟩ = p := ⟨_, rfl⟩
      unfold Ac.val at hsm
      rw [show decide (_ ∧ _) = p from hp] at hsm
      have hck : ∀ V, Below wr.drew.heap.size wr.drew V → Below W.heap.size W V ∧ V.cell? ⟨gb, off + k * 3, none⟩ = some (.int .i64 ry) ∧ V.cell? ⟨gb, off + k * 3 + 1, none⟩ = some (.slice ya ty.length yc) ∧ V.cell? ⟨gb, off + k * 3 + 2, none⟩ = some (.int .i64 sy) := fun V hV => by
        have hV' := below_undrew hV
        exact ⟨hb.out.trans (hV'.mono hb.out.size), (hV'.cell (p := ⟨gb, off + k * 3, none⟩) (lt_of_cell c0)).trans c0, (hV'.cell (p := ⟨gb, off + k * 3 + 1, none⟩) (lt_of_cell c1)).trans c1, (hV'.cell (p := ⟨gb, off + k * 3 + 2, none⟩) (lt_of_cell c2)).trans c2⟩
      have Hsm := hide hsm
      have Hck := hide hck
      have Hp := hide hp
      have Htk := hide htk
      obtain ⟨d0, d1, d2⟩ := (HX.out wr hb.out).2
      have i1 : (k : Int) < (L.length : Int) := by omega
      have i2 : (0 : Int) ≤ (k : Int) := by omega
      clear hLr hyn htk hYd hbd oD hsm hck hp
      go_wp2_with fail
      go_region_held3 (fun V => V.cell? ⟨gb, off + k * 3, none⟩ = some (.int .i64 ry) ∧ V.cell? ⟨gb, off + k * 3 + 1, none⟩ = some (.slice ya ty.length yc) ∧ V.cell? ⟨gb, off + k * 3 + 2, none⟩ = some (.int .i64 sy) ∧ V.cell? ⟨w.heap.size, 0, none⟩ = some (.int .i64 rx) ∧ V.cell? ⟨w.heap.size, 1, none⟩ = some (.slice xa lx.length xc) ∧ V.cell? ⟨w.heap.size, 2, none⟩ = some (.int .i64 sx)) (go_keep)
        ((go_at_call 15; have hqq := Hsm.out; with_reducible refine Calls.mono hqq ?_; clear hqq; rintro r V ⟨rfl, hbV⟩; obtain ⟨x0, x1, x2, x3⟩ := Hck.out V hbV; obtain ⟨y0, y1, y2⟩ := (HX.out V x0).2; have HbV := hide x0; clear hbV x0))
      clear c0 c1 c2 d0 d1 d2 x1 x2 x3 y0 y1 y2 Hsm Hck i1 i2
      cases p
      · have hn : Hid ((L.take (k + 1)).any (fun a => a.same ⟨rx, lx, sx, .slice xa lx.length xc⟩) = false) := hide (by rw [Htk.out, List.any_append, hq.out]; simp [Hp.out])
        go_wp2
        go_roundw
        case rel => exact ⟨k + 1, by omega, by go_num, hn.out, HbV.out⟩
        case measure => simp [intOf]; omega
      · have hy : L.any (fun a => a.same ⟨rx, lx, sx, .slice xa lx.length xc⟩) = true := by
          rw [← List.take_append_drop (k + 1) L, Htk.out, List.any_append, List.any_append]
          simp [Hp.out]
        have HF := hide (HB1.out.trans (HbV.out.mono HB1.out.size))
        have Hy := hide hy
        clear hy
        go_wp2
        go_ret
        exact ⟨by rw [Hy.out]; rfl, HF.out⟩
    · obtain rfl : k = L.length := by omega
      have hn := hq.out
      rw [List.take_length] at hn
      have Hn := hide hn
      have HF := hide (HB1.out.trans (hb.out.mono HB1.out.size))
      clear hn hq
      go_wp2
      go_ret
      exact ⟨by rw [Hn.out]; rfl, HF.out⟩

set_option maxRecDepth 100000 in
set_option maxHeartbeats 2000000 in
theorem rless_any (v : Value) (L : List Ac) (x : Ac) (w : World) (h : ActsIs w v L) (hx : NIs w x.x x.tup) :
    Calls Try.prog 39 #[v, x.val] w fun r w' => ∃ v', r = .returned v' ∧ w'.ownsRow w.heap.size 27 3 v' (L.filter fun a => !a.same x).length (aflat (L.filter fun a => !a.same x)) ∧ Below w.heap.size w w' := by
  obtain ⟨va, vc, rfl⟩ := h.form
  have hLl := h.len
  obtain ⟨rx, lx, sx, vx⟩ := x
  simp only at hx
  obtain ⟨xa, xc, rfl⟩ := hx.form
  obtain ⟨W, hW⟩ : ∃ W, w.alloc (Obj.cells #[.int .i64 rx, .slice xa lx.length xc, .int .i64 sx] 27) = W := ⟨_, rfl⟩
  have hb1 : Below w.heap.size w W := by rw [← hW]; exact ((Only.refl [] w).alloc _).below
  have hbox := heap_alloc0 w (Obj.cells #[.int .i64 rx, .slice xa lx.length xc, .int .i64 sx] 27)
  have hsz : W.heap.size = w.heap.size + 1 := by rw [← hW]; simp
  rw [hW] at hbox
  obtain ⟨b0, b1, b2, _⟩ := cells3a hbox
  have hX : ∀ V, Below W.heap.size W V → NIs V (.slice xa lx.length xc) lx ∧ V.cell? ⟨w.heap.size, 0, none⟩ = some (.int .i64 rx) ∧ V.cell? ⟨w.heap.size, 1, none⟩ = some (.slice xa lx.length xc) ∧ V.cell? ⟨w.heap.size, 2, none⟩ = some (.int .i64 sx) := fun V hV => by
    have hz : w.heap.size < W.heap.size := by omega
    exact ⟨(hx.below hb1).below hV, (hV.cell (p := ⟨w.heap.size, 0, none⟩) hz).trans b0, (hV.cell (p := ⟨w.heap.size, 1, none⟩) hz).trans b1, (hV.cell (p := ⟨w.heap.size, 2, none⟩) hz).trans b2⟩
  obtain ⟨i0, hi, hz0, hz1, hz2⟩ := ainfo_parts
  have Hi := hide hi
  have Hz0 := hide hz0
  have Hz1 := hide hz1
  have Hz2 := hide hz2
  clear hi hz0 hz1 hz2
  have Hsz := hide hsz
  have HX := hide hX
  have HL := hide (h.below hb1)
  have HW := hide hW
  have HB1 := hide hb1
  clear h hx hW hb1 hbox hsz b0 b1 b2 hX
  unfold Ac.val
  go_enter Try.func39, Try.ntmps39
  go_upto_region 1 with fail
  rw [HW.out]
  go_wp2_with fail
  go_loopw [5, 6] (fun vo vi wr => ∃ (k m : Nat) (rk : List Ac) (la : Option Addr) (lc : Nat), k ≤ L.length ∧ vi = .int .i64 k ∧ vo = .slice la m lc ∧ Hid (m ≤ k ∧ rk.length = m ∧ rk = (L.take k).filter (fun a => !a.same ⟨rx, lx, sx, .slice xa lx.length xc⟩) ∧ wr.ownsRow W.heap.size 27 3 (.slice la m lc) m (aflat rk)) ∧ Hid (Below W.heap.size W wr)) (fun _ i _ => L.length - (intOf i).toNat)
  case atStart => exact ⟨0, 0, [], none, 0, Nat.zero_le _, rfl, rfl, ⟨Nat.le_refl _, rfl, by simp, World.ownsRow_nil _ _ _ _⟩, Below.refl _ _⟩
  case round =>
    obtain ⟨k, m, rk, la, lc, hk, rfl, rfl, hq, hb⟩ := hrel
    by_cases hlk : k < L.length
    · have hLr := HL.out.below hb.out
      obtain ⟨gb, off, cap, ya, yc, e, hy, c0, c1, c2⟩ := hLr.at hlk
      injection e with e1 e2 e3
      subst e1 e3
      clear e2
      have hyn := hLr.tups _ (List.getElem_mem hlk)
      have htk := List.take_succ_eq_append_getElem hlk
      obtain ⟨Y, hYd⟩ : ∃ Y, L[k] = Y := ⟨_, rfl⟩
      rw [hYd] at hy c0 c1 c2 hyn htk
      obtain ⟨ry, ty, sy, ay⟩ := Y
      simp only at hy c0 c1 c2 hyn
      subst hy
      have hbd : Below W.heap.size W wr.drew := ⟨hb.out.os, hb.out.tape, hb.out.output, hb.out.size, hb.out.block⟩
      have oD : Below wr.heap.size wr wr.drew := (Only.drew (Only.refl [] wr)).below
      have hsm := rsame_any ⟨ry, ty, sy, .slice ya ty.length yc⟩ ⟨rx, lx, sx, .slice xa lx.length xc⟩ wr.drew (hyn.below oD) (HX.out _ hbd).1
      obtain ⟨p, hp⟩ : ∃ p, (⟨ry, ty, sy, .slice ya ty.length yc⟩ : Ac).same ⟨rx, lx, sx, .slice xa lx.length xc⟩ = p := ⟨_, rfl⟩
      unfold Ac.val at hsm
      rw [show decide (_ ∧ _) = p from hp] at hsm
      have hck : ∀ V, Below wr.drew.heap.size wr.drew V → Below W.heap.size W V ∧ V.cell? ⟨gb, off + k * 3, none⟩ = some (.int .i64 ry) ∧ V.cell? ⟨gb, off + k * 3 + 1, none⟩ = some (.slice ya ty.length yc) ∧ V.cell? ⟨gb, off + k * 3 + 2, none⟩ = some (.int .i64 sy) := fun V hV => by
        have hV' := below_undrew hV
        exact ⟨hb.out.trans (hV'.mono hb.out.size), (hV'.cell (p := ⟨gb, off + k * 3, none⟩) (lt_of_cell c0)).trans c0, (hV'.cell (p := ⟨gb, off + k * 3 + 1, none⟩) (lt_of_cell c1)).trans c1, (hV'.cell (p := ⟨gb, off + k * 3 + 2, none⟩) (lt_of_cell c2)).trans c2⟩
      have Hsm := hide hsm
      have Hck := hide hck
      have Hp := hide hp
      have Htk := hide htk
      obtain ⟨d0, d1, d2⟩ := (HX.out wr hb.out).2
      have i1 : (k : Int) < (L.length : Int) := by omega
      have i2 : (0 : Int) ≤ (k : Int) := by omega
      clear hLr hyn htk hYd hbd oD hsm hck hp
      go_wp2_with fail
      go_region_held3 (fun V => V.cell? ⟨gb, off + k * 3, none⟩ = some (.int .i64 ry) ∧ V.cell? ⟨gb, off + k * 3 + 1, none⟩ = some (.slice ya ty.length yc) ∧ V.cell? ⟨gb, off + k * 3 + 2, none⟩ = some (.int .i64 sy) ∧ V.cell? ⟨w.heap.size, 0, none⟩ = some (.int .i64 rx) ∧ V.cell? ⟨w.heap.size, 1, none⟩ = some (.slice xa lx.length xc) ∧ V.cell? ⟨w.heap.size, 2, none⟩ = some (.int .i64 sx)) (go_keep)
        ((go_at_call 15; have hqq := Hsm.out; with_reducible refine Calls.mono hqq ?_; clear hqq; rintro r V ⟨rfl, hbV⟩; obtain ⟨x0, x1, x2, x3⟩ := Hck.out V hbV; obtain ⟨y0, y1, y2⟩ := (HX.out V x0).2; have HbV := hide x0; have HbVr := hide hbV; clear hbV x0))
      clear c0 c1 c2 d0 d1 d2 y0 y1 y2 Hsm Hck i1 i2
      have htk2 : Hid ((L.take (k + 1)).filter (fun a => !a.same ⟨rx, lx, sx, .slice xa lx.length xc⟩) = rk ++ (if p then [] else [⟨ry, ty, sy, .slice ya ty.length yc⟩])) := by
        rw [Htk.out, List.filter_append, ← hq.out.2.2.1]
        congr 1
        simp only [List.filter_cons, Hp.out, List.filter_nil]
        cases p <;> rfl
      have hbR : Below wr.heap.size wr V := below_undrew HbVr.out
      have HbR := hide hbR
      have hmq := hq.out.1
      have hwz : W.heap.size ≤ wr.heap.size := hb.out.size
      have hvz : wr.heap.size ≤ V.heap.size := hbR.size
      clear hbR
      cases p
      · have hown := (owns_below hq.out.2.2.2 HbR.out).alloc (Obj.cells #[.int .i64 ry, .slice ya ty.length yc, .int .i64 sy] 27)
        have hnews := World.news_of_block (cs := #[.int .i64 ry, .slice ya ty.length yc, .int .i64 sy]) (t := 27) (fr := (0, 0)) (heap_alloc_new V (Obj.cells #[.int .i64 ry, .slice ya ty.length yc, .int .i64 sy] 27))
        have Hown := hide hown
        have Hnews := hide hnews
        have i1 : (k : Int) < (L.length : Int) := by omega
        have i2 : (0 : Int) ≤ (k : Int) := by omega
        clear hown hnews
        go_wp2_with (at_builtin; refine wpList_append_lies _ rfl (.tmp 20) (.tmp 25) _ rfl W.heap.size 27 i0 (.agg #[.int .i64 0, .slice none 0 0, .int .i64 0]) 3 40 Try.underlying22 Hi.out Hz0.out Hz1.out Hz2.out rfl (by decide) (.slice la m lc) m (aflat rk) rfl Hown.out ⟨V.heap.size, 0, none⟩ 1 1 [.int .i64 ry, .slice ya ty.length yc, .int .i64 sy] rfl rfl Hnews.out (by simp [Value.oneCell']) (by decide) (by unfold maxLen; omega) (by omega) (by simp; omega) (V.heap.size + 1) (by simp) ?_; intro g' cap' w8 hown5 hgrow hat hlt5; have Hown5 := hide hown5; have Hgrow := hide hgrow; clear hown5 hgrow hat hlt5)
        have hnew : Hid (m + 1 ≤ k + 1 ∧ (rk ++ [(⟨ry, ty, sy, .slice ya ty.length yc⟩ : Ac)]).length = m + 1 ∧ rk ++ [(⟨ry, ty, sy, .slice ya ty.length yc⟩ : Ac)] = (L.take (k + 1)).filter (fun a => !a.same ⟨rx, lx, sx, .slice xa lx.length xc⟩) ∧ w8.ownsRow W.heap.size 27 3 (.slice (some ⟨g', 0, none⟩) (m + 1) cap') (m + 1) (aflat (rk ++ [(⟨ry, ty, sy, .slice ya ty.length yc⟩ : Ac)]))) :=
          hide ⟨by omega, by simp [hq.out.2.1], by rw [htk2.out]; rfl, by rw [aflat_append]; exact Hown5.out⟩
        have hrow := row_own Hown.out
        have HF := hide (show Below W.heap.size W w8 from ((hb.out.trans (HbR.out.mono hb.out.size)).alloc (by omega) _).grown Hgrow.out (by simp; omega) (fun k hk => hrow k hk))
        go_wp2
        go_roundw
        case rel => exact ⟨k + 1, m + 1, _, _, cap', by omega, by go_num, rfl, hnew.out, HF.out⟩
        case measure => simp [intOf]; omega
      · have hnew : Hid (m ≤ k + 1 ∧ rk.length = m ∧ rk = (L.take (k + 1)).filter (fun a => !a.same ⟨rx, lx, sx, .slice xa lx.length xc⟩) ∧ V.ownsRow W.heap.size 27 3 (.slice la m lc) m (aflat rk)) :=
          hide ⟨by omega, hq.out.2.1, by rw [htk2.out]; simp, owns_below hq.out.2.2.2 HbR.out⟩
        go_wp2
        go_roundw
        case rel => exact ⟨k + 1, m, rk, la, lc, by omega, by go_num, rfl, hnew.out, HbV.out⟩
        case measure => simp [intOf]; omega
    · obtain rfl : k = L.length := by omega
      have hr := hq.out.2.2.1
      rw [List.take_length] at hr
      have HF := hide (HB1.out.trans (hb.out.mono HB1.out.size))
      have Hown := hide hq.out.2.2.2
      have Hlen := hide hq.out.2.1
      have Hr := hide hr
      clear hq hr
      go_wp2
      go_ret
      exact ⟨_, rfl, by rw [← Hr.out, Hlen.out]; exact owns_base Hown.out HB1.out.size, HF.out⟩
end Go.Proofs.Ytelgajgghgknnaa
