/- The contract of Withdraw. -/
import Derived.Test.YtmcajoccfbebiaaTrWd
import Derived.Deep.AppendLies
namespace Go.Proofs.Ytmcajoccfbebiaa
open Go Go.RowKit Go.MapKept Go.Sort

set_option maxRecDepth 100000 in
set_option maxHeartbeats 8000000 in
theorem withdraw_any (b m : Nat) (M : List Sp) (J : Jc) (w : World) (h : BookIs w b m M) (hj : NIs w J.x J.tup) (hl : M.length < 100000) (hnd : (M.map Sp.id).Nodup) (hjs : ∀ x, (getD M x).js.length < 100000) :
    Calls Try.prog 42 #[.pointer (some ⟨b, 0, none⟩), J.val] w fun e w' => ∃ v, e = .returned v ∧
      w'.ownsRow w.heap.size 3 1 v ((idsS M).filter fun x => (getD M x).js.any fun y => y.same J).length (((idsS M).filter fun x => (getD M x).js.any fun y => y.same J).map (.int .i64)) ∧
      (∃ M', BookIs w' b m M' ∧ Wdp M M' J (fun _ => true)) ∧ Only [m] w w' := by
  obtain ⟨jr, jt, jx⟩ := J
  simp only at hj
  obtain ⟨xa, xc, rfl⟩ := hj.form
  have hjlen := hj.1
  have hblt := lt_of_heap h.blk
  have hmlt := h.map.lt
  have hbm := h.ne
  obtain ⟨J, hJ⟩ : ∃ J : Jc, J = ⟨jr, jt, .slice xa jt.length xc⟩ := ⟨_, rfl⟩
  have hJv : (⟨jr, jt, .slice xa jt.length xc⟩ : Jc).val = .agg #[.int .i64 jr, .slice xa jt.length xc] := rfl
  rw [hJv, ← hJ]
  obtain ⟨W0, hW0⟩ : ∃ W0, w.alloc (Obj.cells #[.int .i64 jr, .slice xa jt.length xc] 53) = W0 := ⟨_, rfl⟩
  have hb0 : Below w.heap.size w W0 := by rw [← hW0]; exact ((Only.refl [] w).alloc _).below
  have hx0 := heap_alloc0 w (Obj.cells #[.int .i64 jr, .slice xa jt.length xc] 53)
  have hz0 : W0.heap.size = w.heap.size + 1 := by rw [← hW0]; simp
  rw [hW0] at hx0
  have hfa := facts_any b m M W0 (h.below hb0)
  have hidn := ids_nodup hnd
  have hidl : (idsS M).length < 100000 := by
    have := (rise_perm (M.map Sp.id)).length_eq
    unfold idsS
    rw [this, List.length_map]
    exact hl
  have hidm : ∀ x ∈ idsS M, x ∈ M.map Sp.id := fun x hx => mem_ids.1 hx
  obtain ⟨x0, x1, _⟩ := cells2e hx0
  have HW0 := hide hW0
  have HJ0 := hide hj
  have Hcx := hide (And.intro x0 x1)
  have H0 := hide h
  have Hfa := hide hfa
  have Hidn := hide hidn
  have Hidm := hide hidm
  have Hjs := hide hjs
  have HJe := hide hJ
  have hlt0 : w.heap.size < W0.heap.size := by omega
  have Hb0 := hide hb0
  clear hfa hidn hidm hjs hW0 hx0 hz0 x0 x1 hj hnd h hb0 hJ hJv
  go_enter Try.func42, Try.ntmps42
  go_upto_region 1 with fail
  rw [HW0.out]
  go_wp2_with fail
  (with_reducible refine Hfa.out.mono ?_)
  rintro e V0 ⟨v, rfl, hrow, hbf⟩
  obtain ⟨fa, fc, rfl⟩ := row_form hrow
  have HR := hide (NIs.of_row (l := idsS M) (by omega) hrow)
  have hbV0 : Below w.heap.size w V0 := Hb0.out.trans (hbf.mono (by omega))
  have HbV0 := hide hbV0
  have HcV := hide (And.intro ((KeepsCells.below hbf) _ _ Hcx.out.1) ((KeepsCells.below hbf) _ _ Hcx.out.2))
  have hzV0 : w.heap.size < V0.heap.size := by have := hbf.size; omega
  have HSt : Hid (WdSt w V0 V0 b m V0.heap.size M J 0 0 (.slice none 0 0)) := hide ⟨⟨M, ⟨H0.out.below hbV0, fun p hp => ⟨(H0.out.js p hp).tups, .inl (H0.out.js p hp)⟩⟩, (Wdp.refl M J).congr (fun x => by simp)⟩, by simp, by simpa using World.ownsRow_nil _ _ _ _, Only.of_below hbV0 _, fun _ _ h => h, Nat.le_refl _⟩
  obtain ⟨i0, hi0, hy0, hy1, hy2⟩ := int_parts
  have Hi0 := hide hi0
  have Hy0 := hide hy0
  have Hy1 := hide hy1
  have Hy2 := hide hy2
  clear hrow hbf Hfa HW0 Hcx hbV0 Hb0 hi0 hy0 hy1 hy2
  go_wp2_with fail
  go_loopw [4, 12] (fun vo vi wr => ∃ (k : Nat) (oa : Option Addr) (on oc : Nat), k ≤ (idsS M).length ∧ vi = .int .i64 k ∧ vo = .slice oa on oc ∧ Hid (WdSt w V0 wr b m V0.heap.size M J k on (.slice oa on oc))) (fun _ vi _ => (idsS M).length - (intOf vi).toNat)
  case atStart => exact ⟨0, none, 0, 0, Nat.zero_le _, rfl, rfl, HSt.out⟩
  case round =>
    obtain ⟨k, oa, on, oc, hk, rfl, rfl, hq⟩ := hrel
    by_cases hlk : k < (idsS M).length
    · obtain ⟨⟨M', hB, hwd⟩, hcnt, hrow, honly, hkeep, hV0r⟩ := hq.out
      obtain ⟨ga0, off, cap, e, c0⟩ := nis_at (HR.out.keeps hkeep) hlk
      injection e with e1 e2 e3
      subst e1 e3
      clear e2
      have hon : on ≤ k := by
        have h1 := List.length_filter_le (fun x => (getD M x).js.any fun y => y.same J) ((idsS M).take k)
        rw [hcnt, List.length_take] at h1
        omega
      have hzn : ((idsS M).take k).any (fun y => y == (idsS M)[k]) = false := by
        rw [List.any_eq_false]
        intro y hy e
        obtain ⟨i, hi, rfl⟩ := List.getElem_of_mem hy
        rw [List.length_take] at hi
        rw [List.getElem_take] at e
        exact List.pairwise_iff_getElem.1 Hidn.out i k (by omega) hlk (by omega) (by simpa using e)
      have hzm := Hidm.out _ (List.getElem_mem hlk)
      have htk : (idsS M).take (k + 1) = (idsS M).take k ++ [(idsS M)[k]] := List.take_succ_eq_append_getElem hlk
      obtain ⟨z, hz⟩ : ∃ z, (idsS M)[k] = z := ⟨_, rfl⟩
      rw [hz] at c0 hzn hzm htk
      have hwfz : (Lit.int .i64 z).wf = true := by
        rw [← hwd.ids] at hzm
        obtain ⟨p, hp, rfl⟩ := List.mem_map.1 hzm
        exact hB.book.wf p hp
      have hMl : M'.length < 100000 := by
        have := congrArg List.length hwd.ids
        rw [List.length_map, List.length_map] at this
        omega
      have hG := hB.book.getD z
      have htz := hB.tups z
      have hGl := hwd.len z
      have hGc := hwd.co z
      rw [hzn] at hGc
      simp only [Bool.false_eq_true, if_false] at hGc
      have hGl2 : (getD M' z).js.length < 100000 := Nat.lt_of_le_of_lt hGl (Hjs.out z)
      have hgb := lt_of_heap hB.book.blk
      have d0 := (cells1b hB.book.blk).1
      have hlook := run_lookup1 (P := Try.prog) (t := 86) Try.underlying86 Try.underlying3 hB.book.map (zero_sup _) z
      rw [look_getD] at hlook
      have hst : ∀ q : Sp, q.id = z → q.plain = (getD M' z).plain → q.js.map Jc.co = wfilt J ((getD M' z).js.map Jc.co) → Wdp M (putS M' q) J (fun x => ((idsS M).take (k + 1)).any fun y => y == x) := fun q h1 h2 h3 =>
        (hwd.step (q := q) (by rw [h1]; exact hzm) (by rw [h1]; exact hzn) (by rw [h1]; exact h2) (by rw [h1]; exact h3)).congr fun x => by rw [htk, List.any_append, h1]; simp
      obtain ⟨G, hGe⟩ : ∃ G, getD M' z = G := ⟨_, rfl⟩
      rw [hGe] at hG hGl2 hGc hlook htz
      simp only [hGe] at hst
      have hGid : G.id = z := by rw [← hGe]; exact getD_id M' z
      obtain ⟨gi, gp, js, gv⟩ := G
      simp only at hG hGl2 hGc hst htz hGid
      unfold Sp.val at hlook
      simp only at hlook
      obtain ⟨ga, gc, rfl⟩ := hG.form
      have hany := any_co J hGc
      obtain ⟨W1, hW1⟩ : ∃ W1, wr.alloc (Obj.cells #[.bool gp, .slice ga js.length gc] 90) = W1 := ⟨_, rfl⟩
      have hb1 : Below wr.heap.size wr W1 := by rw [← hW1]; exact ((Only.refl [] wr).alloc _).below
      have hs0 := heap_alloc0 wr (Obj.cells #[.bool gp, .slice ga js.length gc] 90)
      have hz1 : W1.heap.size = wr.heap.size + 1 := by rw [← hW1]; simp
      rw [hW1] at hs0
      obtain ⟨g0, g1, gf0, gf1⟩ := cells2e hs0
      have Hcl := hide (cloneJ_any _ js W1 (hG.keeps (KeepsCells.below hb1)))
      have HW1 := hide hW1
      have Hs0 := hide hs0
      have HB := hide hB
      have HG := hide hG
      have Hcnt := hide hcnt
      have Hrow := hide hrow
      have Honly := hide honly
      have Hkeep := hide hkeep
      have Hst := hide hst
      have Htz := hide htz
      have Hwfz := hide hwfz
      have Htk := hide htk
      have Hany := hide hany
      have hlt1 : wr.heap.size < W1.heap.size := by omega
      have Hb1 := hide hb1
      clear hq hB hwd hcnt hrow honly hkeep hzn hzm htk hz hG hGl hGc hGe hGid hW1 hb1 hs0 hz1 hst hany htz hwfz
      go_upto_region 5 with fail
      rw [HW1.out]
      clear hlook d0 c0
      go_wp2_with fail
      (with_reducible refine Hcl.out.mono ?_)
      rintro r V1 ⟨v1, rfl, hr1, hbc⟩
      have hbw1 : Below wr.heap.size wr V1 := Hb1.out.trans (hbc.mono (by omega))
      have hVc : ∀ V, Only v1.ownBlock.toList V1 V → V.cell? ⟨w.heap.size, 0, none⟩ = some (.int .i64 jr) ∧ V.cell? ⟨w.heap.size, 1, none⟩ = some (.slice xa jt.length xc) := fun V hV => by
        have hne : w.heap.size ∉ v1.ownBlock.toList := fun hm => by
          rw [Option.mem_toList] at hm
          have := (hr1.lt _ hm).1
          omega
        have k0 := (KeepsCells.below hbw1) _ _ (Hkeep.out _ _ HcV.out.1)
        have k1 := (KeepsCells.below hbw1) _ _ (Hkeep.out _ _ HcV.out.2)
        exact ⟨(hV.cell (p := ⟨w.heap.size, 0, none⟩) (lt_of_cell k0) hne).trans k0, (hV.cell (p := ⟨w.heap.size, 1, none⟩) (lt_of_cell k1) hne).trans k1⟩
      have hownge : ∀ g, v1.ownBlock = some g → W1.heap.size ≤ g := fun g e => (hr1.lt g e).1
      have hsub : ∀ k, k ∈ v1.ownBlock.toList → W1.heap.size ≤ k := fun k hk => by
        rw [Option.mem_toList] at hk
        exact hownge k hk
      have hdel := deleteJ_any 79 #[.pointer (some ⟨w.heap.size, 0, none⟩)] (fun x => x.same J) eg_withdraw W1.heap.size v1 js V1 (by omega) hr1
        (fun j hj V hV => (HG.out.tups j hj).below (below_only hbw1 hV (fun k hk => by have := hsub k hk; omega) hbw1.size))
        (by
          rw [HJe.out]
          refine asks_same _ (.inr rfl) v1.ownBlock.toList w.heap.size ⟨jr, jt, .slice xa jt.length xc⟩ V1 (hVc V1 (Only.refl _ _)).1 (hVc V1 (Only.refl _ _)).2 (fun hm => ?_) (fun V hV => ?_)
          · have := hsub _ hm
            omega
          · exact (((HJ0.out.below HbV0.out).keeps Hkeep.out).below (below_only hbw1 hV (fun k hk => by have := hsub k hk; omega) hbw1.size)))
      have hflt := filt_lt J js
      have hfco := filt_co J js
      have hfm : ∀ j ∈ (js.filter fun x => !x.same J), j ∈ js := fun j hj => (List.mem_filter.1 hj).1
      have hfll : (js.filter fun x => !x.same J).length ≤ js.length := List.length_filter_le _ _
      obtain ⟨fl, hfl⟩ : ∃ fl, (js.filter fun x => !x.same J) = fl := ⟨_, rfl⟩
      rw [hfl] at hflt hfco hdel hfm hfll
      have Hdel := hide hdel
      clear hdel
      go_wp2_with fail
      (with_reducible refine Hdel.out.mono ?_)
      rintro r V2 ⟨v2, rfl, hr2, ho2, hob⟩
      have hbw2 : Below wr.heap.size wr V2 := below_only hbw1 ho2 (fun k hk => by have := hsub k hk; omega) hbw1.size
      have hS2 := (hbc.block wr.heap.size (by omega)).trans Hs0.out
      have hS3 := (ho2.block wr.heap.size (by have := hbc.size; omega) (fun hk => by have := hsub _ hk; omega)).trans hS2
      obtain ⟨va, vc, rfl⟩ := row_form hr2
      have hB2 : WdB w V2 b m V0.heap.size M' := HB.out.move (((KeepsCells.below HbV0.out).trans Hkeep.out).trans (KeepsCells.below hbw2)) (hbw2.block b hgb) (hbw2.block m HB.out.book.map.lt) (fun v n xs hr => owns_below hr hbw2)
      have HB2 := hide hB2
      have hro2 := owns_below Hrow.out hbw2
      have Hr2 := hide hr2
      have Hbw2 := hide hbw2
      have HS3 := hide hS3
      have Hfm := hide hfm
      have Hro2 := hide hro2
      have Hfco := hide hfco
      obtain ⟨g0, g1, gf0, gf1⟩ := cells2e hS3
      have hzV2 : wr.heap.size < V2.heap.size := lt_of_heap hS3
      have Hany2 := hide hflt
      clear hr1 hbc hbw1 hVc hownge hsub Hdel Hcl hr2 ho2 hob hbw2 hS2 hS3 hfm hro2 hfco hflt hB2 hfl
      have Hend : Hid (∀ (X : World) (oa' : Option Addr) (on' oc' : Nat), V0.heap.size ≤ X.heap.size → WdB w X b m V0.heap.size M' → on' = (((idsS M).take (k + 1)).filter fun x => (getD M x).js.any fun y => y.same J).length →
          X.ownsRow V0.heap.size 3 1 (.slice oa' on' oc') on' ((((idsS M).take (k + 1)).filter fun x => (getD M x).js.any fun y => y.same J).map (.int .i64)) →
          X.ownsRow W1.heap.size 53 2 (.slice va fl.length vc) fl.length (jflat fl) → KeepsCells V0 X → Only [m] w X →
          ∀ w1, IMap w1 m (put (M'.map Sp.pair) z (.agg #[.bool gp, .slice va fl.length vc])) → Only [m] X.drew w1 → WdSt w V0 w1 b m V0.heap.size M J (k + 1) on' (.slice oa' on' oc')) :=
        hide fun X oa' on' oc' h0 h1 h2 h3 h4 h5 h6 w1 h7 h8 => WdSt.next (q := ⟨z, gp, fl, .slice va fl.length vc⟩) h1 hMl Hwfz.out (by omega) (Hst.out _ rfl rfl Hfco.out) h2.symm h3 ⟨fun j hj => Htz.out j (Hfm.out j hj), by show fl.length ≤ _; omega, owns_base h4 (by omega)⟩ h0 (KeepsCells.below HbV0.out) h5 h6 h7 h8
      by_cases hp : (js.any fun x => x.same J) = true
      · have hless := Hany2.out.2 hp
        have hlti : ((fl.length : Int) < (js.length : Int)) := by omega
        go_wp2_with (at_builtin; refine wpList_append_own _ rfl (.tmp 33) (.tmp 35) _ rfl V0.heap.size 3 i0 (.int .i64 0) 1 8 Try.underlying36 Hi0.out Hy0.out Hy1.out Hy2.out rfl (by decide) (.slice oa on oc) on _ rfl (Hro2.out.alloc _) ⟨V2.heap.size, 0, none⟩ 1 1 [.int .i64 z] rfl rfl (World.news_of_block (cs := #[.int .i64 z]) (heap_alloc_new V2 _)) (by simp [Value.oneCell']) (by unfold maxLen; omega) (by omega) (by simp; omega) ?_; intro v3 X hown3 hg3 _; obtain ⟨na, nc, rfl⟩ := row_form hown3)
        have hX : Below V0.heap.size V2 X := ((Below.refl V0.heap.size V2).alloc (by omega) _).grown hg3 (by simp; omega) (fun k e => row_own Hro2.out k e)
        have htk1 : (((idsS M).take (k + 1)).filter fun x => (getD M x).js.any fun y => y.same J) = (((idsS M).take k).filter fun x => (getD M x).js.any fun y => y.same J) ++ [z] := by
          rw [Htk.out, List.filter_append]
          congr 1
          rw [List.filter_cons, ← Hany.out, hp]
          rfl
        have hrowX : X.ownsRow V0.heap.size 3 1 (.slice na (on + 1) nc) (on + 1) ((((idsS M).take (k + 1)).filter fun x => (getD M x).js.any fun y => y.same J).map (.int .i64)) := by
          rw [htk1, List.map_append]
          exact hown3
        have hcntX : on + 1 = (((idsS M).take (k + 1)).filter fun x => (getD M x).js.any fun y => y.same J).length := by
          rw [htk1, List.length_append, Hcnt.out]
          rfl
        have hkr : ∀ {B n : Nat} {v : Value} {xs : List Value}, V2.ownsRow B 53 2 v n xs → X.ownsRow B 53 2 v n xs := fun hr => (hr.alloc _).kept hg3 (by
          cases e : Value.ownBlock _ with
          | none => exact .inl rfl
          | some g => exact .inr fun q => owns_ne (by decide) (hr) Hro2.out e q.symm)
        have hk02 : KeepsCells V0 X := fun p u hp => (hX.cell (lt_of_cell hp)).trans ((Hkeep.out.trans (KeepsCells.below Hbw2.out)) p u hp)
        have hSX : X.heap[wr.heap.size]? = some (Obj.cells #[.bool gp, .slice ga js.length gc] 90) := by
          have h1 := ((MapKept.heap_alloc V2 (Obj.cells #[.int .i64 z] 3)).2 wr.heap.size hzV2).trans HS3.out
          exact (hg3.block _ (by simp; omega) (fun e => owns_not (Hro2.out.alloc _) h1 (by decide) e.symm)).trans h1
        have hwX : Only [m] w X := by
          have o := Honly.out.trans (Only.of_below Hbw2.out [m])
          exact ⟨hX.os.trans o.os, hX.tape.trans o.tape, hX.output.trans o.output, by have := hX.size; omega, fun k hk hn => (hX.block k (by omega)).trans (o.block k hk hn)⟩
        have hBX : WdB w X b m V0.heap.size M' := HB2.out.move ((KeepsCells.below HbV0.out).trans hk02) (hX.block b (by omega)) (hX.block m (by omega)) (fun v n xs hr => hkr hr)
        obtain ⟨w1, hrun, hm1, ho1, hsz⟩ := run_mapUpdate (P := Try.prog) (t := 86) Try.underlying86 Try.underlying3 (hBX.book.below (Only.drew (Only.refl [] X)).below).map z (.agg #[.bool gp, .slice va fl.length vc])
        have HE := hide (Hend.out X na (on + 1) nc (by have := hX.size; omega) hBX hcntX hrowX (hkr Hr2.out) hk02 hwX w1 hm1 ho1)
        have c1 := (cells1b hBX.book.blk).1
        clear g0 g1 gf0 gf1
        obtain ⟨g0, g1, gf0, gf1⟩ := cells2e hSX
        clear hm1 ho1 hsz htk1 hX hrowX hcntX hkr hk02 hSX hwX hBX hown3 hg3
        go_wp2_with fail
        go_region
        all_goals
          go_wp2
          go_roundw
          case rel => exact ⟨k + 1, na, on + 1, nc, by omega, by go_num, rfl, HE.out⟩
          case measure => simp [intOf]; omega
      · have hnl : ¬ fl.length < js.length := fun q => hp (Hany2.out.1 q)
        have hnli : ¬ ((fl.length : Int) < (js.length : Int)) := by omega
        have htk1 : (((idsS M).take (k + 1)).filter fun x => (getD M x).js.any fun y => y.same J) = (((idsS M).take k).filter fun x => (getD M x).js.any fun y => y.same J) := by
          rw [Htk.out, List.filter_append]
          rw [List.filter_cons, ← Hany.out]
          simp [hp]
        obtain ⟨w1, hrun, hm1, ho1, hsz⟩ := run_mapUpdate (P := Try.prog) (t := 86) Try.underlying86 Try.underlying3 (HB2.out.book.below (Only.drew (Only.refl [] V2)).below).map z (.agg #[.bool gp, .slice va fl.length vc])
        have HE := hide (Hend.out V2 oa on oc (by omega) HB2.out (by rw [htk1, Hcnt.out]) (by rw [htk1]; exact Hro2.out) Hr2.out (Hkeep.out.trans (KeepsCells.below Hbw2.out)) (Honly.out.trans (Only.of_below Hbw2.out _)) w1 hm1 ho1)
        have c1 := (cells1b HB2.out.book.blk).1
        clear hm1 ho1 hsz htk1
        go_wp2_with fail
        go_region
        all_goals
          go_wp2
          go_roundw
          case rel => exact ⟨k + 1, oa, on, oc, by omega, by go_num, rfl, HE.out⟩
          case measure => simp [intOf]; omega
    · obtain rfl : k = (idsS M).length := by omega
      obtain ⟨⟨M', hB, hwd⟩, hcnt, hrow, honly, hkeep, hV0r⟩ := hq.out
      rw [List.take_length] at hwd hcnt hrow
      have HF := hide (And.intro (show wr.ownsRow w.heap.size 3 1 (.slice oa on oc) ((idsS M).filter fun x => (getD M x).js.any fun y => y.same J).length (((idsS M).filter fun x => (getD M x).js.any fun y => y.same J).map (.int .i64)) by rw [hcnt]; exact owns_base hrow (show w.heap.size ≤ V0.heap.size by omega)) (And.intro (⟨M', hB.book, hwd.full⟩ : ∃ M', BookIs wr b m M' ∧ Wdp M M' J (fun _ => true)) honly))
      clear hq hB hwd hcnt hrow honly hkeep
      go_wp2
      go_ret
      exact ⟨_, rfl, HF.out.1, HF.out.2.1, HF.out.2.2⟩
end Go.Proofs.Ytmcajoccfbebiaa
