/- Justify and Withdraw of truth, saying where the facts' slices lie (printed by rt7.py). -/
import Derived.Test.YtmcajoccfbebiaaRT6
import Derived.Test.YtmcajoccfbebiaaTrWdW
import Derived.Deep.AppendLies
namespace Go.Proofs.Ytmcajoccfbebiaa
open Go Go.RowKit Go.MapKept Go.Sort

set_option maxRecDepth 100000 in
set_option maxHeartbeats 4000000 in
theorem justify2_any (b m : Nat) (M : List Sp) (id : Int) (J : Jc) (w : World) (h : BookIs w b m M) (hj : NIs w J.x J.tup) (hwf : (Lit.int .i64 id).wf = true) (hl : M.length < 100000) (hjl : (getD M id).js.length < 100000) :
    Calls Try.prog 28 #[.pointer (some ⟨b, 0, none⟩), .int .i64 id, J.val] w fun e w' => e = .returned (.bool (!((getD M id).js.any fun x => x.same J))) ∧
      (∃ q : Sp, q.id = id ∧ q.plain = (getD M id).plain ∧ q.js.map Jc.co = (getD M id).js.map Jc.co ++ (if (getD M id).js.any fun x => x.same J then [] else [J.co]) ∧ BookIs w' b m (putS M q) ∧ (∀ A : Nat → Prop, (∀ k, w.heap.size ≤ k → k < w'.heap.size → A k) → AvB A M → AvB A (putS M q))) ∧ Only [m] w w' := by
  obtain ⟨jr, jt, jx⟩ := J
  simp only at hj
  obtain ⟨xa, xc, rfl⟩ := hj.form
  have hjlen := hj.1
  have hG := h.getD id
  obtain ⟨G, hGe⟩ : ∃ G, getD M id = G := ⟨_, rfl⟩
  rw [hGe] at hG hjl
  simp only [hGe]
  obtain ⟨gi, gp, js, gv⟩ := G
  simp only at hG hjl ⊢
  obtain ⟨ga, gc, rfl⟩ := hG.form
  have hblt := lt_of_heap h.blk
  obtain ⟨W0, hW0⟩ : ∃ W0, w.alloc (Obj.cells #[.int .i64 jr, .slice xa jt.length xc] 53) = W0 := ⟨_, rfl⟩
  have hb0 : Below w.heap.size w W0 := by rw [← hW0]; exact ((Only.refl [] w).alloc _).below
  have hx0 := heap_alloc0 w (Obj.cells #[.int .i64 jr, .slice xa jt.length xc] 53)
  have hz0 : W0.heap.size = w.heap.size + 1 := by rw [← hW0]; simp
  rw [hW0] at hx0
  obtain ⟨W1, hW1⟩ : ∃ W1, W0.alloc (Obj.cells #[.bool gp, .slice ga js.length gc] 90) = W1 := ⟨_, rfl⟩
  have hb1 : Below W0.heap.size W0 W1 := by rw [← hW1]; exact ((Only.refl [] W0).alloc _).below
  have hs0 := heap_alloc0 W0 (Obj.cells #[.bool gp, .slice ga js.length gc] 90)
  have hz1 : W1.heap.size = W0.heap.size + 1 := by rw [← hW1]; simp
  rw [hW1] at hs0
  have hbw1 : Below w.heap.size w W1 := hb0.trans (hb1.mono (by omega))
  have hx1 := (hb1.block w.heap.size (by omega)).trans hx0
  have c0 := (hb0.cell (p := ⟨b, 0, none⟩) hblt).trans (cells1b h.blk).1
  have hlook := run_lookup1 (P := Try.prog) (t := 86) Try.underlying86 Try.underlying3 (h.below hb0).map (zero_sup _) id
  rw [look_getD, hGe] at hlook
  unfold Sp.val at hlook
  simp only at hlook
  obtain ⟨x0, x1, _⟩ := cells2e hx1
  have hc := containsJ_any 55 #[.pointer (some ⟨w.heap.size, 0, none⟩)] (fun j => j.same ⟨jr, jt, .slice xa jt.length xc⟩) eg_justify _ js W1 (hG.keeps (KeepsCells.below hbw1))
    (asks_same _ (.inl rfl) [] w.heap.size ⟨jr, jt, .slice xa jt.length xc⟩ W1 x0 x1 (by simp) (fun V hV => (hj.below hbw1).below hV.below))
  obtain ⟨g0, g1, _⟩ := cells2e hs0
  have Hc := hide hc
  have H := hide h
  have HG := hide hG
  have HGe := hide hGe
  have HavG : Hid (∀ A : Nat → Prop, AvB A M → AvS A ⟨gi, gp, js, .slice ga js.length gc⟩) := hide fun A hA => by rw [← hGe]; exact hA.getD id
  have HW0 := hide hW0
  have HW1 := hide hW1
  have Hbw1 := hide hbw1
  have hlt0 : w.heap.size < W0.heap.size := by omega
  have hlt1 : W0.heap.size < W1.heap.size := by omega
  have Hj := hide hj
  have Hx1 := hide hx1
  have Hs0 := hide hs0
  have c1 := (hb1.cell (p := ⟨b, 0, none⟩) (by show b < W0.heap.size; omega)).trans c0
  unfold Jc.val
  obtain ⟨p, hp⟩ : ∃ p, (js.any fun x => x.same ⟨jr, jt, .slice xa jt.length xc⟩) = p := ⟨_, rfl⟩
  rw [hp] at Hc ⊢
  clear hc h hG hGe hW0 hW1 hb0 hb1 hx0 hs0 hx1 hz0 hz1 hbw1 hj hp
  go_enter Try.func28, Try.ntmps28
  go_upto_region 1 with fail
  rw [HW0.out]
  go_upto_region 4 with (go_at_call 53; refine (none_some b m _ c0).mono ?_; rintro e w' ⟨rfl, rfl⟩)
  rw [HW1.out]
  clear hlook c0
  go_wp2_with fail
  (with_reducible refine Hc.out.mono ?_)
  rintro r V ⟨rfl, hb⟩
  have HbV := hide (Hbw1.out.trans (hb.mono (by omega)))
  have hNV : W0.heap.size < V.heap.size := by have := hb.size; omega
  have HN := hide ((hb.block w.heap.size (by omega)).trans Hx1.out)
  have HS := hide ((hb.block W0.heap.size (by omega)).trans Hs0.out)
  have HHV := hide (H.out.below HbV.out)
  clear hb Hc x0 x1 g0 g1 c1
  have c1 := (cells1b HHV.out.blk).1
  obtain ⟨x0, x1, xf0, xf1⟩ := cells2e HN.out
  obtain ⟨g0, g1, gf0, gf1⟩ := cells2e HS.out
  cases p
  · -- fresh
    have hncl := nclone (.slice xa jt.length xc) jt V (Hj.out.below HbV.out)
    have Hncl := hide hncl
    clear hncl
    go_wp2_with fail
    (with_reducible refine Hncl.out.mono ?_)
    rintro r V1 ⟨nv, rfl, hrow, hb⟩
    obtain ⟨na, nc, rfl⟩ := row_form hrow
    have HN1 := hide ((hb.block w.heap.size (by omega)).trans HN.out)
    have HS1 := hide ((hb.block W0.heap.size hNV).trans HS.out)
    have hbV1 := HbV.out.trans (hb.mono HbV.out.size)
    have HHV1 := hide (H.out.below hbV1)
    have HnV1 := hide (NIs.of_row hjlen hrow)
    have Hrow := hide hrow
    have hz := hb.size
    have HbV1 := hide hbV1
    clear hb hbV1 hrow Hncl c1 x0 x1 xf0 xf1 g0 g1 gf0 gf1
    obtain ⟨x0, x1, xf0, xf1⟩ := cells2e HN1.out
    go_upto_region 7 with fail
    obtain ⟨U, hU⟩ : ∃ U, V1.setCell ⟨w.heap.size, 1, none⟩ (.slice na jt.length nc) = U := ⟨_, rfl⟩
    rw [hU]
    have hzU : U.heap.size = V1.heap.size := by rw [← hU]; simp [World.setCell]
    have oU : Only [w.heap.size] V1 U := by rw [← hU]; exact (Only.refl _ _).setCell (.inl (by simp)) _
    have hNU : U.heap[w.heap.size]? = some (Obj.cells #[.int .i64 jr, .slice na jt.length nc] 53) := by rw [← hU, setCell_heap HN1.out]; rfl
    have hSU : U.heap[W0.heap.size]? = some (Obj.cells #[.bool gp, .slice ga js.length gc] 90) := (oU.block _ (by omega) (by simp; omega)).trans HS1.out
    have hbU : Below w.heap.size w U := by rw [← hU]; exact HbV1.out.setCell (by simp) _
    have hnU : NIs U (.slice na jt.length nc) jt := NIs.of_row hjlen (owns_only Hrow.out oU (fun k hk hm => by
      have := (Hrow.out.lt k hk).1
      simp only [List.mem_singleton] at hm
      omega))
    have hjU : JsIs U (.slice ga js.length gc) js := HG.out.keeps (KeepsCells.below hbU)
    have HU := hide hU
    have HzU := hide hzU
    have HNU := hide hNU
    have HSU := hide hSU
    have HbU := hide hbU
    have HnU := hide hnU
    have hgU : W0.heap.size < U.heap.size := by omega
    have HC : Hid (∀ V, Below U.heap.size U V → Calls Try.prog 58 #[.slice ga js.length gc] V fun r w' => ∃ v', r = .returned v' ∧ w'.ownsRow V.heap.size 53 2 v' js.length (jflat js) ∧ Below V.heap.size V w') := hide fun V hV => cloneJ_any _ js V (hjU.keeps (KeepsCells.below hV))
    have Hcell : Hid (∀ V, Below U.heap.size U V → V.cell? ⟨w.heap.size, 0, none⟩ = some (.int .i64 jr) ∧ V.cell? ⟨w.heap.size, 1, none⟩ = some (.slice na jt.length nc) ∧ V.cell? ⟨W0.heap.size, 1, none⟩ = some (.slice ga js.length gc) ∧ V.frozen? ⟨W0.heap.size, 1, none⟩ = false) := hide fun V hV => by
      obtain ⟨k0, k1, _, _⟩ := cells2e ((hV.block w.heap.size (by omega)).trans hNU)
      obtain ⟨_, l1, _, lf⟩ := cells2e ((hV.block W0.heap.size hgU).trans hSU)
      exact ⟨k0, k1, l1, lf⟩
    obtain ⟨i0, hi0, hy0, hy1, hy2⟩ := jinfo_parts
    have Hi0 := hide hi0
    have Hy0 := hide hy0
    have Hy1 := hide hy1
    have Hy2 := hide hy2
    have hbA : Below U.heap.size U U.drew := (Only.drew (Only.refl [] U)).below
    have BelA := hide hbA
    have hbB : Below U.heap.size U ((U.alloc (Obj.cells #[.int .i64 jr, .slice na jt.length nc] 53)).drew) := (((Only.refl [] U).alloc _).drew).below
    have BelB := hide hbB
    have LitB : Hid (((U.alloc (Obj.cells #[.int .i64 jr, .slice na jt.length nc] 53)).drew).heap[U.heap.size]? = some (Obj.cells #[.int .i64 jr, .slice na jt.length nc] 53)) := hide (heap_alloc0 U _)
    have SzB : Hid (((U.alloc (Obj.cells #[.int .i64 jr, .slice na jt.length nc] 53)).drew).heap.size = U.heap.size + 1) := hide (by show (U.alloc _).heap.size = _; simp)
    have HlitO : Hid (∀ u ∈ [Value.int .i64 jr, .slice na jt.length nc], u.oneCell' = true) := hide (by simp [Value.oneCell'])
    clear hU hzU oU hNU hSU hbU hnU hjU hi0 hy0 hy1 hy2 hbA hbB x0 x1 xf0 xf1
    obtain ⟨k0, k1, k2, kf⟩ := Hcell.out U (Below.refl _ _)
    go_wp2_with fail
    go_region_law (first
      | (go_simp; go_at_call 58; have hqq := HC.out _ BelA.out; (with_reducible refine Calls.mono hqq ?_); clear hqq; rintro r X1 ⟨v1, rfl, hrw, hbx⟩; obtain ⟨a1, q1, rfl⟩ := row_form hrw; have HXA := hide (BelA.out.trans (hbx.mono (Nat.le_refl _))); have HOA := hide (owns_base hrw (Nat.le_refl _)); obtain ⟨y0, y1, y2, yf⟩ := Hcell.out X1 HXA.out; have hzX : U.heap.size ≤ X1.heap.size := HXA.out.size; clear hrw hbx)
      | (go_simp; go_at_call 58; have hqq := HC.out _ BelB.out; (with_reducible refine Calls.mono hqq ?_); clear hqq; rintro r X1 ⟨v1, rfl, hrw, hbx⟩; obtain ⟨a1, q1, rfl⟩ := row_form hrw; have HXB := hide (BelB.out.trans (hbx.mono (by rw [SzB.out]; omega))); have HOB := hide (owns_base (B' := U.heap.size) hrw (by rw [SzB.out]; omega)); have HLB := hide ((hbx.block U.heap.size (by rw [SzB.out]; omega)).trans LitB.out); obtain ⟨y0, y1, y2, yf⟩ := Hcell.out X1 HXB.out; have hzX : U.heap.size ≤ X1.heap.size := HXB.out.size; clear hrw hbx)
      | (refine step_append_own rfl (.tmp 29) (.tmp 31) 60 rfl U.heap.size 53 i0 (.agg #[.int .i64 0, .slice none 0 0]) 2 32 Try.underlying60 Hi0.out Hy0.out Hy1.out Hy2.out rfl (by decide) (.slice a1 js.length q1) js.length (jflat js) ?_ (HOA.out.alloc _) ⟨X1.heap.size, 0, none⟩ 1 1 [.int .i64 jr, .slice na jt.length nc] ?_ rfl (lit2_news (heap_alloc0 X1 _)) HlitO.out (by unfold maxLen; omega) (by omega) (by first | omega | (simp only [World.size_alloc]; omega)) ?_; (focus (simp [Act.eval]; done)); (focus (simp [Act.eval]; done)); intro v2 X2 hown2 hg2; have hfin := just_app (n := js.length) (HXA.out.trans (((Only.refl [] X1).alloc _).below.mono (by omega))) (HOA.out.alloc _) hg2 hown2 rfl rfl; obtain ⟨hbX2, a2, q2, rfl⟩ := hfin; have HX2 := hide hbX2; have HO2 := hide hown2; obtain ⟨u0, u1, u2, uf⟩ := Hcell.out X2 hbX2; clear hbX2 hown2 hg2)
      | (refine step_append_own rfl (.tmp 29) (.tmp 31) 60 rfl U.heap.size 53 i0 (.agg #[.int .i64 0, .slice none 0 0]) 2 32 Try.underlying60 Hi0.out Hy0.out Hy1.out Hy2.out rfl (by decide) (.slice a1 js.length q1) js.length (jflat js) ?_ HOB.out ⟨U.heap.size, 0, none⟩ 1 1 [.int .i64 jr, .slice na jt.length nc] ?_ rfl (lit2_news HLB.out) HlitO.out (by unfold maxLen; omega) (by omega) (by first | omega | (simp only [World.size_alloc]; omega)) ?_; (focus (simp [Act.eval]; done)); (focus (simp [Act.eval]; done)); intro v2 X2 hown2 hg2; have hfin := just_app (n := js.length) HXB.out HOB.out hg2 hown2 rfl rfl; obtain ⟨hbX2, a2, q2, rfl⟩ := hfin; have HX2 := hide hbX2; have HO2 := hide hown2; obtain ⟨u0, u1, u2, uf⟩ := Hcell.out X2 hbX2; clear hbX2 hown2 hg2))
    all_goals
      clear k0 k1 k2 kf y0 y1 y2 yf u0 u1
      obtain ⟨X3, hX3⟩ : ∃ X3, X2.setCell ⟨W0.heap.size, 1, none⟩ (.slice a2 (js.length + 1) q2) = X3 := ⟨_, rfl⟩
      rw [hX3]
      have hb3 : Below w.heap.size w X3 := by rw [← hX3]; exact (HbU.out.trans (HX2.out.mono HbU.out.size)).setCell (by simp only; omega) _
      have o3 : Only [W0.heap.size] X2 X3 := by rw [← hX3]; exact (Only.refl _ _).setCell (.inl (by simp)) _
      have hs3 : X3.heap[W0.heap.size]? = some (Obj.cells #[.bool gp, .slice a2 (js.length + 1) q2] 90) := by rw [← hX3, setCell_heap ((HX2.out.block W0.heap.size hgU).trans HSU.out)]; rfl
      have hj3 : JsIs X3 (.slice a2 (js.length + 1) q2) (js ++ [⟨jr, jt, .slice na jt.length nc⟩]) := by
        refine JsIs.of_row (B := U.heap.size) (by simp; omega) ?_ (fun z hz => ?_)
        · rw [List.length_append, jflat_append]
          exact owns_only HO2.out o3 (fun k hk hm => by
            have := (HO2.out.lt k hk).1
            simp only [List.mem_singleton] at hm
            omega)
        · rcases List.mem_append.1 hz with hz | hz
          · exact (HG.out.tups z hz).below hb3
          · simp only [List.mem_singleton] at hz
            subst hz
            have hne : ∀ a n c, Value.slice na jt.length nc = .slice (some a) n c → a.block ∉ [W0.heap.size] := fun a n c e hm => by
              cases e
              have := (Hrow.out.lt _ rfl).1
              simp only [List.mem_singleton] at hm
              omega
            exact nis_only (HnU.out.below HX2.out) o3 hne
      obtain ⟨l0, l1, _, _⟩ := cells2e hs3
      have HB3 := H.out.below hb3
      have c3 := (cells1b HB3.blk).1
      have oD : Below X3.heap.size X3 X3.drew := (Only.drew (Only.refl [] X3)).below
      obtain ⟨w1, hrun, hm1, ho1, hsz⟩ := run_mapUpdate (P := Try.prog) (t := 86) Try.underlying86 Try.underlying3 (HB3.below oD).map id (.agg #[.bool gp, .slice a2 (js.length + 1) q2])
      have HF := hide ((HB3.below oD).store (q := ⟨id, gp, js ++ [⟨jr, jt, .slice na jt.length nc⟩], .slice a2 (js.length + 1) q2⟩) hm1 ho1 (hj3.keeps (KeepsCells.below oD)) hwf hl)
      have hzw1 : X2.heap.size ≤ w1.heap.size := by have := ho1.size; have := o3.size; have h9 : X3.drew.heap.size = X3.heap.size := rfl; omega
      have hzw2 : V1.heap.size ≤ X2.heap.size := by have := HX2.out.size; have := HzU.out; omega
      have HAV : Hid (∀ A : Nat → Prop, (∀ k, w.heap.size ≤ k → k < w1.heap.size → A k) → AvB A M → AvB A (putS M ⟨id, gp, js ++ [⟨jr, jt, .slice na jt.length nc⟩], .slice a2 (js.length + 1) q2⟩)) := hide fun A hA hM => hM.put ⟨AvV.own2 HO2.out fun k hk hk2 => hA k (by omega) (by omega), fun z hz => by
        rcases List.mem_append.1 hz with hz | hz
        · exact (HavG.out A hM).2 z hz
        · simp only [List.mem_singleton] at hz
          subst hz
          exact AvV.own2 Hrow.out fun k hk hk2 => hA k (by omega) (by omega)⟩
      have HO := hide (((Only.of_below hb3 [m]).trans (Only.of_below oD [m])).trans ho1)
      clear hX3 hb3 o3 hs3 hj3 HB3 oD hm1 ho1 hsz u2 uf
      go_wp2_with fail
      go_region
      all_goals
        go_wp2
        go_ret
        exact ⟨rfl, ⟨_, rfl, rfl, by simp [Jc.co], HF.out, HAV.out⟩, HO.out⟩
  · -- there already
    obtain ⟨w1, hrun, hm1, ho1, hsz⟩ := run_mapUpdate (P := Try.prog) (t := 86) Try.underlying86 Try.underlying3 (HHV.out.below (Only.drew (Only.refl [] V)).below).map id (.agg #[.bool gp, .slice ga js.length gc])
    have HF := hide ((HHV.out.below (Only.drew (Only.refl [] V)).below).store (q := ⟨id, gp, js, .slice ga js.length gc⟩) hm1 ho1 (HG.out.keeps (KeepsCells.below (HbV.out.trans ((Only.drew (Only.refl [] V)).below.mono HbV.out.size)))) hwf hl)
    have HO := hide (((Only.of_below HbV.out [m]).trans (Only.of_below (Only.drew (Only.refl [] V)).below [m])).trans ho1)
    clear hm1 ho1 hsz
    go_wp2_with fail
    go_region
    all_goals
      go_wp2
      go_ret
      exact ⟨rfl, ⟨_, rfl, rfl, by simp, HF.out, fun A _ hM => hM.put (HavG.out A hM)⟩, HO.out⟩
/-- Where Withdraw stands, behind k ids. -/
structure WdSu (w V0 wr : World) (b m B : Nat) (M : List Sp) (J : Jc) (k n : Nat) (vo : Value) : Prop where
  book : ∃ M', WdB w wr b m B M' ∧ Wdp M M' J (fun x => ((idsS M).take k).any fun y => y == x) ∧ (∀ A : Nat → Prop, (∀ k, w.heap.size ≤ k → k < wr.heap.size → A k) → AvB A M → AvB A M')
  cnt : (((idsS M).take k).filter fun x => (getD M x).js.any fun y => y.same J).length = n
  row : wr.ownsRow B 3 1 vo n ((((idsS M).take k).filter fun x => (getD M x).js.any fun y => y.same J).map (.int .i64))
  only : Only [m] w wr
  keep : KeepsCells V0 wr
  size : V0.heap.size ≤ wr.heap.size
/-- Behind the store. -/
theorem WdSu.next {w V0 X w1 : World} {b m : Nat} {M M' : List Sp} {J : Jc} {k n : Nat} {vo : Value} {q : Sp} (hB : WdB w X b m V0.heap.size M') (hl : M'.length < 100000) (hwf : (Lit.int .i64 q.id).wf = true) (hm : m < V0.heap.size)
    (hwd : Wdp M (putS M' q) J (fun x => ((idsS M).take (k + 1)).any fun y => y == x)) (hav : ∀ A : Nat → Prop, (∀ k, w.heap.size ≤ k → k < X.heap.size → A k) → AvB A M → AvB A (putS M' q)) (_hXX : X.heap.size ≤ X.heap.size) (hcnt : (((idsS M).take (k + 1)).filter fun x => (getD M x).js.any fun y => y.same J).length = n)
    (hrow : X.ownsRow V0.heap.size 3 1 vo n ((((idsS M).take (k + 1)).filter fun x => (getD M x).js.any fun y => y.same J).map (.int .i64))) (hq : (∀ j ∈ q.js, NIs w j.x j.tup) ∧ q.js.length ≤ 1000000 ∧ X.ownsRow V0.heap.size 53 2 q.v q.js.length (jflat q.js))
    (hsz : V0.heap.size ≤ X.heap.size) (hkw : KeepsCells w V0) (hk : KeepsCells V0 X) (ho : Only [m] w X) (hi : IMap w1 m (put (M'.map Sp.pair) q.id q.val)) (ho1 : Only [m] X.drew w1) : WdSu w V0 w1 b m V0.heap.size M J (k + 1) n vo := by
  have oD : Only [m] X X.drew := Only.of_below (Only.drew (Only.refl [] X)).below _
  have o1 : Only [m] X w1 := oD.trans ho1
  have hne : ∀ {t : TypeId} {s n : Nat} {v : Value} {xs : List Value}, X.ownsRow V0.heap.size t s v n xs → w1.ownsRow V0.heap.size t s v n xs := fun hr => owns_only hr o1 fun k hk hm' => by
    have := (hr.lt k hk).1
    simp only [List.mem_singleton] at hm'
    omega
  have kc1 : KeepsCells X w1 := KeepsCells.map hB.book.map o1
  have hXw : KeepsCells w w1 := (hkw.trans hk).trans kc1
  have hj : JsIs X q.v q.js := JsIs.of_row hq.2.1 hq.2.2 fun j hj => (hq.1 j hj).keeps (hkw.trans hk)
  have hS := (hB.book.below (Only.drew (Only.refl [] X)).below).store hi ho1 (hj.keeps (KeepsCells.below (Only.drew (Only.refl [] X)).below)) hwf hl
  refine ⟨⟨_, ⟨hS, fun p hp => ?_⟩, hwd, fun A hA => hav A fun k h1 h2 => hA k h1 (Nat.lt_of_lt_of_le h2 o1.size)⟩, hcnt, hne hrow, ho.trans o1, hk.trans kc1, Nat.le_trans hsz o1.size⟩
  rcases mem_putS hp with rfl | hp
  · exact ⟨hq.1, .inr ⟨hq.2.1, hne hq.2.2⟩⟩
  · obtain ⟨h1, h2⟩ := hB.safe p hp
    exact ⟨h1, h2.imp id fun q => ⟨q.1, hne q.2⟩⟩
set_option maxRecDepth 100000 in
set_option maxHeartbeats 8000000 in
theorem withdraw2_any (b m : Nat) (M : List Sp) (J : Jc) (w : World) (h : BookIs w b m M) (hj : NIs w J.x J.tup) (hl : M.length < 100000) (hnd : (M.map Sp.id).Nodup) (hjs : ∀ x, (getD M x).js.length < 100000) :
    Calls Try.prog 42 #[.pointer (some ⟨b, 0, none⟩), J.val] w fun e w' => ∃ v, e = .returned v ∧
      w'.ownsRow w.heap.size 3 1 v ((idsS M).filter fun x => (getD M x).js.any fun y => y.same J).length (((idsS M).filter fun x => (getD M x).js.any fun y => y.same J).map (.int .i64)) ∧
      (∃ M', BookIs w' b m M' ∧ Wdp M M' J (fun _ => true) ∧ (∀ A : Nat → Prop, (∀ k, w.heap.size ≤ k → k < w'.heap.size → A k) → AvB A M → AvB A M')) ∧ Only [m] w w' := by
  obtain ⟨jr, jt, jx⟩ := J
  simp only at hj
  obtain ⟨xa, xc, rfl⟩ := hj.form
  have hjlen := hj.1
  have hblt := lt_of_heap h.blk
  have hmlt := h.map.lt
  have hbm := h.ne
  obtain ⟨J, hJ⟩ : ∃ J : Jc, J = ⟨jr, jt, .slice xa jt.length xc⟩ := ⟨_, rfl⟩
  have hJv : (⟨jr, jt, .slice xa jt.length xc⟩ : Jc).val = .agg #[.int .i64 jr, .slice xa jt.length xc] := rfl
  rw [hJv, ← hJ]
  obtain ⟨W0, hW0⟩ : ∃ W0, w.alloc (Obj.cells #[.int .i64 jr, .slice xa jt.length xc] 53) = W0 := ⟨_, rfl⟩
  have hb0 : Below w.heap.size w W0 := by rw [← hW0]; exact ((Only.refl [] w).alloc _).below
  have hx0 := heap_alloc0 w (Obj.cells #[.int .i64 jr, .slice xa jt.length xc] 53)
  have hz0 : W0.heap.size = w.heap.size + 1 := by rw [← hW0]; simp
  rw [hW0] at hx0
  have hfa := facts_any b m M W0 (h.below hb0)
  have hidn := ids_nodup hnd
  have hidl : (idsS M).length < 100000 := by
    have := (rise_perm (M.map Sp.id)).length_eq
    unfold idsS
    rw [this, List.length_map]
    exact hl
  have hidm : ∀ x ∈ idsS M, x ∈ M.map Sp.id := fun x hx => mem_ids.1 hx
  obtain ⟨x0, x1, _⟩ := cells2e hx0
  have HW0 := hide hW0
  have HJ0 := hide hj
  have Hcx := hide (And.intro x0 x1)
  have H0 := hide h
  have Hfa := hide hfa
  have Hidn := hide hidn
  have Hidm := hide hidm
  have Hjs := hide hjs
  have HJe := hide hJ
  have hlt0 : w.heap.size < W0.heap.size := by omega
  have Hb0 := hide hb0
  clear hfa hidn hidm hjs hW0 hx0 hz0 x0 x1 hj hnd h hb0 hJ hJv
  go_enter Try.func42, Try.ntmps42
  go_upto_region 1 with fail
  rw [HW0.out]
  go_wp2_with fail
  (with_reducible refine Hfa.out.mono ?_)
  rintro e V0 ⟨v, rfl, hrow, hbf⟩
  obtain ⟨fa, fc, rfl⟩ := row_form hrow
  have HR := hide (NIs.of_row (l := idsS M) (by omega) hrow)
  have hbV0 : Below w.heap.size w V0 := Hb0.out.trans (hbf.mono (by omega))
  have HbV0 := hide hbV0
  have HcV := hide (And.intro ((KeepsCells.below hbf) _ _ Hcx.out.1) ((KeepsCells.below hbf) _ _ Hcx.out.2))
  have hzV0 : w.heap.size < V0.heap.size := by have := hbf.size; omega
  have HSt : Hid (WdSu w V0 V0 b m V0.heap.size M J 0 0 (.slice none 0 0)) := hide ⟨⟨M, ⟨H0.out.below hbV0, fun p hp => ⟨(H0.out.js p hp).tups, .inl (H0.out.js p hp)⟩⟩, (Wdp.refl M J).congr (fun x => by simp), fun _ _ h => h⟩, by simp, by simpa using World.ownsRow_nil _ _ _ _, Only.of_below hbV0 _, fun _ _ h => h, Nat.le_refl _⟩
  obtain ⟨i0, hi0, hy0, hy1, hy2⟩ := int_parts
  have Hi0 := hide hi0
  have Hy0 := hide hy0
  have Hy1 := hide hy1
  have Hy2 := hide hy2
  clear hrow hbf Hfa HW0 Hcx hbV0 Hb0 hi0 hy0 hy1 hy2
  go_wp2_with fail
  go_loopw [4, 12] (fun vo vi wr => ∃ (k : Nat) (oa : Option Addr) (on oc : Nat), k ≤ (idsS M).length ∧ vi = .int .i64 k ∧ vo = .slice oa on oc ∧ Hid (WdSu w V0 wr b m V0.heap.size M J k on (.slice oa on oc))) (fun _ vi _ => (idsS M).length - (intOf vi).toNat)
  case atStart => exact ⟨0, none, 0, 0, Nat.zero_le _, rfl, rfl, HSt.out⟩
  case round =>
    obtain ⟨k, oa, on, oc, hk, rfl, rfl, hq⟩ := hrel
    by_cases hlk : k < (idsS M).length
    · obtain ⟨⟨M', hB, hwd, hav⟩, hcnt, hrow, honly, hkeep, hV0r⟩ := hq.out
      have Hav := hide hav
      obtain ⟨ga0, off, cap, e, c0⟩ := nis_at (HR.out.keeps hkeep) hlk
      injection e with e1 e2 e3
      subst e1 e3
      clear e2
      have hon : on ≤ k := by
        have h1 := List.length_filter_le (fun x => (getD M x).js.any fun y => y.same J) ((idsS M).take k)
        rw [hcnt, List.length_take] at h1
        omega
      have hzn : ((idsS M).take k).any (fun y => y == (idsS M)[k]) = false := by
        rw [List.any_eq_false]
        intro y hy e
        obtain ⟨i, hi, rfl⟩ := List.getElem_of_mem hy
        rw [List.length_take] at hi
        rw [List.getElem_take] at e
        exact List.pairwise_iff_getElem.1 Hidn.out i k (by omega) hlk (by omega) (by simpa using e)
      have hzm := Hidm.out _ (List.getElem_mem hlk)
      have htk : (idsS M).take (k + 1) = (idsS M).take k ++ [(idsS M)[k]] := List.take_succ_eq_append_getElem hlk
      obtain ⟨z, hz⟩ : ∃ z, (idsS M)[k] = z := ⟨_, rfl⟩
      rw [hz] at c0 hzn hzm htk
      have hwfz : (Lit.int .i64 z).wf = true := by
        rw [← hwd.ids] at hzm
        obtain ⟨p, hp, rfl⟩ := List.mem_map.1 hzm
        exact hB.book.wf p hp
      have hMl : M'.length < 100000 := by
        have := congrArg List.length hwd.ids
        rw [List.length_map, List.length_map] at this
        omega
      have hG := hB.book.getD z
      have htz := hB.tups z
      have hGl := hwd.len z
      have hGc := hwd.co z
      rw [hzn] at hGc
      simp only [Bool.false_eq_true, if_false] at hGc
      have hGl2 : (getD M' z).js.length < 100000 := Nat.lt_of_le_of_lt hGl (Hjs.out z)
      have hgb := lt_of_heap hB.book.blk
      have d0 := (cells1b hB.book.blk).1
      have hlook := run_lookup1 (P := Try.prog) (t := 86) Try.underlying86 Try.underlying3 hB.book.map (zero_sup _) z
      rw [look_getD] at hlook
      have hst : ∀ q : Sp, q.id = z → q.plain = (getD M' z).plain → q.js.map Jc.co = wfilt J ((getD M' z).js.map Jc.co) → Wdp M (putS M' q) J (fun x => ((idsS M).take (k + 1)).any fun y => y == x) := fun q h1 h2 h3 =>
        (hwd.step (q := q) (by rw [h1]; exact hzm) (by rw [h1]; exact hzn) (by rw [h1]; exact h2) (by rw [h1]; exact h3)).congr fun x => by rw [htk, List.any_append, h1]; simp
      obtain ⟨G, hGe⟩ : ∃ G, getD M' z = G := ⟨_, rfl⟩
      rw [hGe] at hG hGl2 hGc hlook htz
      simp only [hGe] at hst
      have hGid : G.id = z := by rw [← hGe]; exact getD_id M' z
      obtain ⟨gi, gp, js, gv⟩ := G
      simp only at hG hGl2 hGc hst htz hGid
      unfold Sp.val at hlook
      simp only at hlook
      obtain ⟨ga, gc, rfl⟩ := hG.form
      have hany := any_co J hGc
      obtain ⟨W1, hW1⟩ : ∃ W1, wr.alloc (Obj.cells #[.bool gp, .slice ga js.length gc] 90) = W1 := ⟨_, rfl⟩
      have hb1 : Below wr.heap.size wr W1 := by rw [← hW1]; exact ((Only.refl [] wr).alloc _).below
      have hs0 := heap_alloc0 wr (Obj.cells #[.bool gp, .slice ga js.length gc] 90)
      have hz1 : W1.heap.size = wr.heap.size + 1 := by rw [← hW1]; simp
      rw [hW1] at hs0
      obtain ⟨g0, g1, gf0, gf1⟩ := cells2e hs0
      have Hcl := hide (cloneJ_any _ js W1 (hG.keeps (KeepsCells.below hb1)))
      have HW1 := hide hW1
      have Hs0 := hide hs0
      have HB := hide hB
      have HG := hide hG
      have Hcnt := hide hcnt
      have Hrow := hide hrow
      have Honly := hide honly
      have Hkeep := hide hkeep
      have Hst := hide hst
      have Htz := hide htz
      have HavG : Hid (∀ A : Nat → Prop, AvB A M' → AvS A ⟨gi, gp, js, .slice ga js.length gc⟩) := hide fun A hA => by rw [← hGe]; exact hA.getD z
      have Hwfz := hide hwfz
      have Htk := hide htk
      have Hany := hide hany
      have hlt1 : wr.heap.size < W1.heap.size := by omega
      have Hb1 := hide hb1
      clear hq hB hwd hav hcnt hrow honly hkeep hzn hzm htk hz hG hGl hGc hGe hGid hW1 hb1 hs0 hz1 hst hany htz hwfz
      go_upto_region 5 with fail
      rw [HW1.out]
      clear hlook d0 c0
      go_wp2_with fail
      (with_reducible refine Hcl.out.mono ?_)
      rintro r V1 ⟨v1, rfl, hr1, hbc⟩
      have hbw1 : Below wr.heap.size wr V1 := Hb1.out.trans (hbc.mono (by omega))
      have hVc : ∀ V, Only v1.ownBlock.toList V1 V → V.cell? ⟨w.heap.size, 0, none⟩ = some (.int .i64 jr) ∧ V.cell? ⟨w.heap.size, 1, none⟩ = some (.slice xa jt.length xc) := fun V hV => by
        have hne : w.heap.size ∉ v1.ownBlock.toList := fun hm => by
          rw [Option.mem_toList] at hm
          have := (hr1.lt _ hm).1
          omega
        have k0 := (KeepsCells.below hbw1) _ _ (Hkeep.out _ _ HcV.out.1)
        have k1 := (KeepsCells.below hbw1) _ _ (Hkeep.out _ _ HcV.out.2)
        exact ⟨(hV.cell (p := ⟨w.heap.size, 0, none⟩) (lt_of_cell k0) hne).trans k0, (hV.cell (p := ⟨w.heap.size, 1, none⟩) (lt_of_cell k1) hne).trans k1⟩
      have hownge : ∀ g, v1.ownBlock = some g → W1.heap.size ≤ g := fun g e => (hr1.lt g e).1
      have hsub : ∀ k, k ∈ v1.ownBlock.toList → W1.heap.size ≤ k := fun k hk => by
        rw [Option.mem_toList] at hk
        exact hownge k hk
      have hdel := deleteJ_any 79 #[.pointer (some ⟨w.heap.size, 0, none⟩)] (fun x => x.same J) eg_withdraw W1.heap.size v1 js V1 (by omega) hr1
        (fun j hj V hV => (HG.out.tups j hj).below (below_only hbw1 hV (fun k hk => by have := hsub k hk; omega) hbw1.size))
        (by
          rw [HJe.out]
          refine asks_same _ (.inr rfl) v1.ownBlock.toList w.heap.size ⟨jr, jt, .slice xa jt.length xc⟩ V1 (hVc V1 (Only.refl _ _)).1 (hVc V1 (Only.refl _ _)).2 (fun hm => ?_) (fun V hV => ?_)
          · have := hsub _ hm
            omega
          · exact (((HJ0.out.below HbV0.out).keeps Hkeep.out).below (below_only hbw1 hV (fun k hk => by have := hsub k hk; omega) hbw1.size)))
      have hflt := filt_lt J js
      have hfco := filt_co J js
      have hfm : ∀ j ∈ (js.filter fun x => !x.same J), j ∈ js := fun j hj => (List.mem_filter.1 hj).1
      have hfll : (js.filter fun x => !x.same J).length ≤ js.length := List.length_filter_le _ _
      obtain ⟨fl, hfl⟩ : ∃ fl, (js.filter fun x => !x.same J) = fl := ⟨_, rfl⟩
      rw [hfl] at hflt hfco hdel hfm hfll
      have Hdel := hide hdel
      clear hdel
      go_wp2_with fail
      (with_reducible refine Hdel.out.mono ?_)
      rintro r V2 ⟨v2, rfl, hr2, ho2, hob⟩
      have hbw2 : Below wr.heap.size wr V2 := below_only hbw1 ho2 (fun k hk => by have := hsub k hk; omega) hbw1.size
      have hS2 := (hbc.block wr.heap.size (by omega)).trans Hs0.out
      have hS3 := (ho2.block wr.heap.size (by have := hbc.size; omega) (fun hk => by have := hsub _ hk; omega)).trans hS2
      obtain ⟨va, vc, rfl⟩ := row_form hr2
      have hB2 : WdB w V2 b m V0.heap.size M' := HB.out.move (((KeepsCells.below HbV0.out).trans Hkeep.out).trans (KeepsCells.below hbw2)) (hbw2.block b hgb) (hbw2.block m HB.out.book.map.lt) (fun v n xs hr => owns_below hr hbw2)
      have HB2 := hide hB2
      have hro2 := owns_below Hrow.out hbw2
      have Hr2 := hide hr2
      have Hbw2 := hide hbw2
      have HS3 := hide hS3
      have Hfm := hide hfm
      have Hro2 := hide hro2
      have Hfco := hide hfco
      obtain ⟨g0, g1, gf0, gf1⟩ := cells2e hS3
      have hzV2 : wr.heap.size < V2.heap.size := lt_of_heap hS3
      have Hany2 := hide hflt
      clear hr1 hbc hbw1 hVc hownge hsub Hdel Hcl hr2 ho2 hob hbw2 hS2 hS3 hfm hro2 hfco hflt hB2 hfl
      have Hend : Hid (∀ (X : World) (oa' : Option Addr) (on' oc' : Nat), V0.heap.size ≤ X.heap.size ∧ wr.heap.size ≤ X.heap.size → WdB w X b m V0.heap.size M' → on' = (((idsS M).take (k + 1)).filter fun x => (getD M x).js.any fun y => y.same J).length →
          X.ownsRow V0.heap.size 3 1 (.slice oa' on' oc') on' ((((idsS M).take (k + 1)).filter fun x => (getD M x).js.any fun y => y.same J).map (.int .i64)) →
          X.ownsRow W1.heap.size 53 2 (.slice va fl.length vc) fl.length (jflat fl) → KeepsCells V0 X → Only [m] w X →
          ∀ w1, IMap w1 m (put (M'.map Sp.pair) z (.agg #[.bool gp, .slice va fl.length vc])) → Only [m] X.drew w1 → WdSu w V0 w1 b m V0.heap.size M J (k + 1) on' (.slice oa' on' oc')) :=
        hide fun X oa' on' oc' h0 h1 h2 h3 h4 h5 h6 w1 h7 h8 => WdSu.next (q := ⟨z, gp, fl, .slice va fl.length vc⟩) h1 hMl Hwfz.out (by omega) (Hst.out _ rfl rfl Hfco.out) (fun A hA hM => (Hav.out A (fun k h1 h2 => hA k h1 (by have := h0.2; omega)) hM).put ⟨AvV.own2 h4 fun k hk hk2 => hA k (by omega) hk2, fun j hj => (HavG.out A (Hav.out A (fun k h1 h2 => hA k h1 (by have := h0.2; omega)) hM)).2 j (Hfm.out j hj)⟩) (by omega) h2.symm h3 ⟨fun j hj => Htz.out j (Hfm.out j hj), by show fl.length ≤ _; omega, owns_base h4 (by omega)⟩ h0.1 (KeepsCells.below HbV0.out) h5 h6 h7 h8
      by_cases hp : (js.any fun x => x.same J) = true
      · have hless := Hany2.out.2 hp
        have hlti : ((fl.length : Int) < (js.length : Int)) := by omega
        go_wp2_with (at_builtin; refine wpList_append_own _ rfl (.tmp 33) (.tmp 35) _ rfl V0.heap.size 3 i0 (.int .i64 0) 1 8 Try.underlying36 Hi0.out Hy0.out Hy1.out Hy2.out rfl (by decide) (.slice oa on oc) on _ rfl (Hro2.out.alloc _) ⟨V2.heap.size, 0, none⟩ 1 1 [.int .i64 z] rfl rfl (World.news_of_block (cs := #[.int .i64 z]) (heap_alloc_new V2 _)) (by simp [Value.oneCell']) (by unfold maxLen; omega) (by omega) (by simp; omega) ?_; intro v3 X hown3 hg3 _; obtain ⟨na, nc, rfl⟩ := row_form hown3)
        have hX : Below V0.heap.size V2 X := ((Below.refl V0.heap.size V2).alloc (by omega) _).grown hg3 (by simp; omega) (fun k e => row_own Hro2.out k e)
        have htk1 : (((idsS M).take (k + 1)).filter fun x => (getD M x).js.any fun y => y.same J) = (((idsS M).take k).filter fun x => (getD M x).js.any fun y => y.same J) ++ [z] := by
          rw [Htk.out, List.filter_append]
          congr 1
          rw [List.filter_cons, ← Hany.out, hp]
          rfl
        have hrowX : X.ownsRow V0.heap.size 3 1 (.slice na (on + 1) nc) (on + 1) ((((idsS M).take (k + 1)).filter fun x => (getD M x).js.any fun y => y.same J).map (.int .i64)) := by
          rw [htk1, List.map_append]
          exact hown3
        have hcntX : on + 1 = (((idsS M).take (k + 1)).filter fun x => (getD M x).js.any fun y => y.same J).length := by
          rw [htk1, List.length_append, Hcnt.out]
          rfl
        have hkr : ∀ {B n : Nat} {v : Value} {xs : List Value}, V2.ownsRow B 53 2 v n xs → X.ownsRow B 53 2 v n xs := fun hr => (hr.alloc _).kept hg3 (by
          cases e : Value.ownBlock _ with
          | none => exact .inl rfl
          | some g => exact .inr fun q => owns_ne (by decide) (hr) Hro2.out e q.symm)
        have hk02 : KeepsCells V0 X := fun p u hp => (hX.cell (lt_of_cell hp)).trans ((Hkeep.out.trans (KeepsCells.below Hbw2.out)) p u hp)
        have hSX : X.heap[wr.heap.size]? = some (Obj.cells #[.bool gp, .slice ga js.length gc] 90) := by
          have h1 := ((MapKept.heap_alloc V2 (Obj.cells #[.int .i64 z] 3)).2 wr.heap.size hzV2).trans HS3.out
          exact (hg3.block _ (by simp; omega) (fun e => owns_not (Hro2.out.alloc _) h1 (by decide) e.symm)).trans h1
        have hwX : Only [m] w X := by
          have o := Honly.out.trans (Only.of_below Hbw2.out [m])
          exact ⟨hX.os.trans o.os, hX.tape.trans o.tape, hX.output.trans o.output, by have := hX.size; omega, fun k hk hn => (hX.block k (by omega)).trans (o.block k hk hn)⟩
        have hBX : WdB w X b m V0.heap.size M' := HB2.out.move ((KeepsCells.below HbV0.out).trans hk02) (hX.block b (by omega)) (hX.block m (by omega)) (fun v n xs hr => hkr hr)
        obtain ⟨w1, hrun, hm1, ho1, hsz⟩ := run_mapUpdate (P := Try.prog) (t := 86) Try.underlying86 Try.underlying3 (hBX.book.below (Only.drew (Only.refl [] X)).below).map z (.agg #[.bool gp, .slice va fl.length vc])
        have HE := hide (Hend.out X na (on + 1) nc ⟨by have := hX.size; omega, by have := hX.size; omega⟩ hBX hcntX hrowX (hkr Hr2.out) hk02 hwX w1 hm1 ho1)
        have c1 := (cells1b hBX.book.blk).1
        clear g0 g1 gf0 gf1
        obtain ⟨g0, g1, gf0, gf1⟩ := cells2e hSX
        clear hm1 ho1 hsz htk1 hX hrowX hcntX hkr hk02 hSX hwX hBX hown3 hg3
        go_wp2_with fail
        go_region
        all_goals
          go_wp2
          go_roundw
          case rel => exact ⟨k + 1, na, on + 1, nc, by omega, by go_num, rfl, HE.out⟩
          case measure => simp [intOf]; omega
      · have hnl : ¬ fl.length < js.length := fun q => hp (Hany2.out.1 q)
        have hnli : ¬ ((fl.length : Int) < (js.length : Int)) := by omega
        have htk1 : (((idsS M).take (k + 1)).filter fun x => (getD M x).js.any fun y => y.same J) = (((idsS M).take k).filter fun x => (getD M x).js.any fun y => y.same J) := by
          rw [Htk.out, List.filter_append]
          rw [List.filter_cons, ← Hany.out]
          simp [hp]
        obtain ⟨w1, hrun, hm1, ho1, hsz⟩ := run_mapUpdate (P := Try.prog) (t := 86) Try.underlying86 Try.underlying3 (HB2.out.book.below (Only.drew (Only.refl [] V2)).below).map z (.agg #[.bool gp, .slice va fl.length vc])
        have HE := hide (Hend.out V2 oa on oc ⟨by omega, by omega⟩ HB2.out (by rw [htk1, Hcnt.out]) (by rw [htk1]; exact Hro2.out) Hr2.out (Hkeep.out.trans (KeepsCells.below Hbw2.out)) (Honly.out.trans (Only.of_below Hbw2.out _)) w1 hm1 ho1)
        have c1 := (cells1b HB2.out.book.blk).1
        clear hm1 ho1 hsz htk1
        go_wp2_with fail
        go_region
        all_goals
          go_wp2
          go_roundw
          case rel => exact ⟨k + 1, oa, on, oc, by omega, by go_num, rfl, HE.out⟩
          case measure => simp [intOf]; omega
    · obtain rfl : k = (idsS M).length := by omega
      obtain ⟨⟨M', hB, hwd, hav⟩, hcnt, hrow, honly, hkeep, hV0r⟩ := hq.out
      rw [List.take_length] at hwd hcnt hrow
      have HF := hide (And.intro (show wr.ownsRow w.heap.size 3 1 (.slice oa on oc) ((idsS M).filter fun x => (getD M x).js.any fun y => y.same J).length (((idsS M).filter fun x => (getD M x).js.any fun y => y.same J).map (.int .i64)) by rw [hcnt]; exact owns_base hrow (show w.heap.size ≤ V0.heap.size by omega)) (And.intro (⟨M', hB.book, hwd.full, hav⟩ : ∃ M', BookIs wr b m M' ∧ Wdp M M' J (fun _ => true) ∧ (∀ A : Nat → Prop, (∀ k, w.heap.size ≤ k → k < wr.heap.size → A k) → AvB A M → AvB A M')) honly))
      clear hq hB hwd hav hcnt hrow honly hkeep
      go_wp2
      go_ret
      exact ⟨_, rfl, HF.out.1, HF.out.2.1, HF.out.2.2⟩
end Go.Proofs.Ytmcajoccfbebiaa
