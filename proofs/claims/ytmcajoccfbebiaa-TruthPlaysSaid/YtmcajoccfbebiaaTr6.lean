/- Justify. -/
import Derived.Test.YtmcajoccfbebiaaTr5
namespace Go.Proofs.Ytmcajoccfbebiaa
open Go Go.RowKit Go.MapKept Go.Sort

theorem lit2_news {V : World} {X : Nat} {x y : Value} {t : TypeId} (h : V.heap[X]? = some (.cells #[x, y] t (0, 0))) : ∀ (j : Nat) (u : Value), [x, y][j]? = some u → V.cell? ((⟨X, 0, none⟩ : Addr).add j) = some u := by
  obtain ⟨c0, c1, _⟩ := cells2e h
  intro j u hu
  match j, hu with
  | 0, hu => simp at hu; subst hu; simpa [Addr.add] using c0
  | 1, hu => simp at hu; subst hu; simpa [Addr.add] using c1
  | j + 2, hu => simp at hu

/-- The row behind append. -/
theorem just_app {U X X2 : World} {n B : Nat} {v1 v2 : Value} {js : List Jc} {r : Int} {x : Value} (hb : Below U.heap.size U X) (ho : X.ownsRow U.heap.size 53 2 v1 js.length (jflat js)) (hg : X.grownBy X2 v1.ownBlock)
    (hown : X2.ownsRow U.heap.size 53 2 v2 (js.length + 1) (jflat js ++ [.int .i64 r, x])) (hB : B = U.heap.size) (_hn : n = js.length) :
    Below B U X2 ∧ ∃ a c, v2 = .slice a (js.length + 1) c := by
  subst hB
  exact ⟨hb.grown hg hb.size (fun k e => (ho.lt k e).1), row_form hown⟩

set_option maxRecDepth 100000 in
set_option maxHeartbeats 4000000 in
theorem justify_any (b m : Nat) (M : List Sp) (id : Int) (J : Jc) (w : World) (h : BookIs w b m M) (hj : NIs w J.x J.tup) (hwf : (Lit.int .i64 id).wf = true) (hl : M.length < 100000) (hjl : (getD M id).js.length < 100000) :
    Calls Try.prog 28 #[.pointer (some ⟨b, 0, none⟩), .int .i64 id, J.val] w fun e w' => e = .returned (.bool (!((getD M id).js.any fun x => x.same J))) ∧
      (∃ q : Sp, q.id = id ∧ q.plain = (getD M id).plain ∧ q.js.map Jc.co = (getD M id).js.map Jc.co ++ (if (getD M id).js.any fun x => x.same J then [] else [J.co]) ∧ BookIs w' b m (putS M q)) ∧ Only [m] w w' := by
  obtain ⟨jr, jt, jx⟩ := J
  simp only at hj
  obtain ⟨xa, xc, rfl⟩ := hj.form
  have hjlen := hj.1
  have hG := h.getD id
  obtain ⟨G, hGe⟩ : ∃ G, getD M id = G := ⟨_, rfl⟩
  rw [hGe] at hG hjl
  simp only [hGe]
  obtain ⟨gi, gp, js, gv⟩ := G
  simp only at hG hjl ⊢
  obtain ⟨ga, gc, rfl⟩ := hG.form
  have hblt := lt_of_heap h.blk
  obtain ⟨W0, hW0⟩ : ∃ W0, w.alloc (Obj.cells #[.int .i64 jr, .slice xa jt.length xc] 53) = W0 := ⟨_, rfl⟩
  have hb0 : Below w.heap.size w W0 := by rw [← hW0]; exact ((Only.refl [] w).alloc _).below
  have hx0 := heap_alloc0 w (Obj.cells #[.int .i64 jr, .slice xa jt.length xc] 53)
  have hz0 : W0.heap.size = w.heap.size + 1 := by rw [← hW0]; simp
  rw [hW0] at hx0
  obtain ⟨W1, hW1⟩ : ∃ W1, W0.alloc (Obj.cells #[.bool gp, .slice ga js.length gc] 90) = W1 := ⟨_, rfl⟩
  have hb1 : Below W0.heap.size W0 W1 := by rw [← hW1]; exact ((Only.refl [] W0).alloc _).below
  have hs0 := heap_alloc0 W0 (Obj.cells #[.bool gp, .slice ga js.length gc] 90)
  have hz1 : W1.heap.size = W0.heap.size + 1 := by rw [← hW1]; simp
  rw [hW1] at hs0
  have hbw1 : Below w.heap.size w W1 := hb0.trans (hb1.mono (by omega))
  have hx1 := (hb1.block w.heap.size (by omega)).trans hx0
  have c0 := (hb0.cell (p := ⟨b, 0, none⟩) hblt).trans (cells1b h.blk).1
  have hlook := run_lookup1 (P := Try.prog) (t := 86) Try.underlying86 Try.underlying3 (h.below hb0).map (zero_sup _) id
  rw [look_getD, hGe] at hlook
  unfold Sp.val at hlook
  simp only at hlook
  obtain ⟨x0, x1, _⟩ := cells2e hx1
  have hc := containsJ_any 55 #[.pointer (some ⟨w.heap.size, 0, none⟩)] (fun j => j.same ⟨jr, jt, .slice xa jt.length xc⟩) eg_justify _ js W1 (hG.keeps (KeepsCells.below hbw1))
    (asks_same _ (.inl rfl) [] w.heap.size ⟨jr, jt, .slice xa jt.length xc⟩ W1 x0 x1 (by simp) (fun V hV => (hj.below hbw1).below hV.below))
  obtain ⟨g0, g1, _⟩ := cells2e hs0
  have Hc := hide hc
  have H := hide h
  have HG := hide hG
  have HGe := hide hGe
  have HW0 := hide hW0
  have HW1 := hide hW1
  have Hbw1 := hide hbw1
  have hlt0 : w.heap.size < W0.heap.size := by omega
  have hlt1 : W0.heap.size < W1.heap.size := by omega
  have Hj := hide hj
  have Hx1 := hide hx1
  have Hs0 := hide hs0
  have c1 := (hb1.cell (p := ⟨b, 0, none⟩) (by show b < W0.heap.size; omega)).trans c0
  unfold Jc.val
  obtain ⟨p, hp⟩ : ∃ p, (js.any fun x => x.same ⟨jr, jt, .slice xa jt.length xc⟩) = p := ⟨_, rfl⟩
  rw [hp] at Hc ⊢
  clear hc h hG hGe hW0 hW1 hb0 hb1 hx0 hs0 hx1 hz0 hz1 hbw1 hj hp
  go_enter Try.func28, Try.ntmps28
  go_upto_region 1 with fail
  rw [HW0.out]
  go_upto_region 4 with (go_at_call 53; refine (none_some b m _ c0).mono ?_; rintro e w' ⟨rfl, rfl⟩)
  rw [HW1.out]
  clear hlook c0
  go_wp2_with fail
  (with_reducible refine Hc.out.mono ?_)
  rintro r V ⟨rfl, hb⟩
  have HbV := hide (Hbw1.out.trans (hb.mono (by omega)))
  have hNV : W0.heap.size < V.heap.size := by have := hb.size; omega
  have HN := hide ((hb.block w.heap.size (by omega)).trans Hx1.out)
  have HS := hide ((hb.block W0.heap.size (by omega)).trans Hs0.out)
  have HHV := hide (H.out.below HbV.out)
  clear hb Hc x0 x1 g0 g1 c1
  have c1 := (cells1b HHV.out.blk).1
  obtain ⟨x0, x1, xf0, xf1⟩ := cells2e HN.out
  obtain ⟨g0, g1, gf0, gf1⟩ := cells2e HS.out
  cases p
  · -- fresh
    have hncl := nclone (.slice xa jt.length xc) jt V (Hj.out.below HbV.out)
    have Hncl := hide hncl
    clear hncl
    go_wp2_with fail
    (with_reducible refine Hncl.out.mono ?_)
    rintro r V1 ⟨nv, rfl, hrow, hb⟩
    obtain ⟨na, nc, rfl⟩ := row_form hrow
    have HN1 := hide ((hb.block w.heap.size (by omega)).trans HN.out)
    have HS1 := hide ((hb.block W0.heap.size hNV).trans HS.out)
    have hbV1 := HbV.out.trans (hb.mono HbV.out.size)
    have HHV1 := hide (H.out.below hbV1)
    have HnV1 := hide (NIs.of_row hjlen hrow)
    have Hrow := hide hrow
    have hz := hb.size
    have HbV1 := hide hbV1
    clear hb hbV1 hrow Hncl c1 x0 x1 xf0 xf1 g0 g1 gf0 gf1
    obtain ⟨x0, x1, xf0, xf1⟩ := cells2e HN1.out
    go_upto_region 7 with fail
    obtain ⟨U, hU⟩ : ∃ U, V1.setCell ⟨w.heap.size, 1, none⟩ (.slice na jt.length nc) = U := ⟨_, rfl⟩
    rw [hU]
    have hzU : U.heap.size = V1.heap.size := by rw [← hU]; simp [World.setCell]
    have oU : Only [w.heap.size] V1 U := by rw [← hU]; exact (Only.refl _ _).setCell (.inl (by simp)) _
    have hNU : U.heap[w.heap.size]? = some (Obj.cells #[.int .i64 jr, .slice na jt.length nc] 53) := by rw [← hU, setCell_heap HN1.out]; rfl
    have hSU : U.heap[W0.heap.size]? = some (Obj.cells #[.bool gp, .slice ga js.length gc] 90) := (oU.block _ (by omega) (by simp; omega)).trans HS1.out
    have hbU : Below w.heap.size w U := by rw [← hU]; exact HbV1.out.setCell (by simp) _
    have hnU : NIs U (.slice na jt.length nc) jt := NIs.of_row hjlen (owns_only Hrow.out oU (fun k hk hm => by
      have := (Hrow.out.lt k hk).1
      simp only [List.mem_singleton] at hm
      omega))
    have hjU : JsIs U (.slice ga js.length gc) js := HG.out.keeps (KeepsCells.below hbU)
    have HU := hide hU
    have HzU := hide hzU
    have HNU := hide hNU
    have HSU := hide hSU
    have HbU := hide hbU
    have HnU := hide hnU
    have hgU : W0.heap.size < U.heap.size := by omega
    have HC : Hid (∀ V, Below U.heap.size U V → Calls Try.prog 58 #[.slice ga js.length gc] V fun r w' => ∃ v', r = .returned v' ∧ w'.ownsRow V.heap.size 53 2 v' js.length (jflat js) ∧ Below V.heap.size V w') := hide fun V hV => cloneJ_any _ js V (hjU.keeps (KeepsCells.below hV))
    have Hcell : Hid (∀ V, Below U.heap.size U V → V.cell? ⟨w.heap.size, 0, none⟩ = some (.int .i64 jr) ∧ V.cell? ⟨w.heap.size, 1, none⟩ = some (.slice na jt.length nc) ∧ V.cell? ⟨W0.heap.size, 1, none⟩ = some (.slice ga js.length gc) ∧ V.frozen? ⟨W0.heap.size, 1, none⟩ = false) := hide fun V hV => by
      obtain ⟨k0, k1, _, _⟩ := cells2e ((hV.block w.heap.size (by omega)).trans hNU)
      obtain ⟨_, l1, _, lf⟩ := cells2e ((hV.block W0.heap.size hgU).trans hSU)
      exact ⟨k0, k1, l1, lf⟩
    obtain ⟨i0, hi0, hy0, hy1, hy2⟩ := jinfo_parts
    have Hi0 := hide hi0
    have Hy0 := hide hy0
    have Hy1 := hide hy1
    have Hy2 := hide hy2
    have hbA : Below U.heap.size U U.drew := (Only.drew (Only.refl [] U)).below
    have BelA := hide hbA
    have hbB : Below U.heap.size U ((U.alloc (Obj.cells #[.int .i64 jr, .slice na jt.length nc] 53)).drew) := (((Only.refl [] U).alloc _).drew).below
    have BelB := hide hbB
    have LitB : Hid (((U.alloc (Obj.cells #[.int .i64 jr, .slice na jt.length nc] 53)).drew).heap[U.heap.size]? = some (Obj.cells #[.int .i64 jr, .slice na jt.length nc] 53)) := hide (heap_alloc0 U _)
    have SzB : Hid (((U.alloc (Obj.cells #[.int .i64 jr, .slice na jt.length nc] 53)).drew).heap.size = U.heap.size + 1) := hide (by show (U.alloc _).heap.size = _; simp)
    have HlitO : Hid (∀ u ∈ [Value.int .i64 jr, .slice na jt.length nc], u.oneCell' = true) := hide (by simp [Value.oneCell'])
    clear hU hzU oU hNU hSU hbU hnU hjU hi0 hy0 hy1 hy2 hbA hbB x0 x1 xf0 xf1
    obtain ⟨k0, k1, k2, kf⟩ := Hcell.out U (Below.refl _ _)
    go_wp2_with fail
    go_region_law (first
      | (go_simp; go_at_call 58; have hqq := HC.out _ BelA.out; (with_reducible refine Calls.mono hqq ?_); clear hqq; rintro r X1 ⟨v1, rfl, hrw, hbx⟩; obtain ⟨a1, q1, rfl⟩ := row_form hrw; have HXA := hide (BelA.out.trans (hbx.mono (Nat.le_refl _))); have HOA := hide (owns_base hrw (Nat.le_refl _)); obtain ⟨y0, y1, y2, yf⟩ := Hcell.out X1 HXA.out; have hzX : U.heap.size ≤ X1.heap.size := HXA.out.size; clear hrw hbx)
      | (go_simp; go_at_call 58; have hqq := HC.out _ BelB.out; (with_reducible refine Calls.mono hqq ?_); clear hqq; rintro r X1 ⟨v1, rfl, hrw, hbx⟩; obtain ⟨a1, q1, rfl⟩ := row_form hrw; have HXB := hide (BelB.out.trans (hbx.mono (by rw [SzB.out]; omega))); have HOB := hide (owns_base (B' := U.heap.size) hrw (by rw [SzB.out]; omega)); have HLB := hide ((hbx.block U.heap.size (by rw [SzB.out]; omega)).trans LitB.out); obtain ⟨y0, y1, y2, yf⟩ := Hcell.out X1 HXB.out; have hzX : U.heap.size ≤ X1.heap.size := HXB.out.size; clear hrw hbx)
      | (refine step_append_own rfl (.tmp 29) (.tmp 31) 60 rfl U.heap.size 53 i0 (.agg #[.int .i64 0, .slice none 0 0]) 2 32 Try.underlying60 Hi0.out Hy0.out Hy1.out Hy2.out rfl (by decide) (.slice a1 js.length q1) js.length (jflat js) ?_ (HOA.out.alloc _) ⟨X1.heap.size, 0, none⟩ 1 1 [.int .i64 jr, .slice na jt.length nc] ?_ rfl (lit2_news (heap_alloc0 X1 _)) HlitO.out (by unfold maxLen; omega) (by omega) (by first | omega | (simp only [World.size_alloc]; omega)) ?_; (focus (simp [Act.eval]; done)); (focus (simp [Act.eval]; done)); intro v2 X2 hown2 hg2; have hfin := just_app (n := js.length) (HXA.out.trans (((Only.refl [] X1).alloc _).below.mono (by omega))) (HOA.out.alloc _) hg2 hown2 rfl rfl; obtain ⟨hbX2, a2, q2, rfl⟩ := hfin; have HX2 := hide hbX2; have HO2 := hide hown2; obtain ⟨u0, u1, u2, uf⟩ := Hcell.out X2 hbX2; clear hbX2 hown2 hg2)
      | (refine step_append_own rfl (.tmp 29) (.tmp 31) 60 rfl U.heap.size 53 i0 (.agg #[.int .i64 0, .slice none 0 0]) 2 32 Try.underlying60 Hi0.out Hy0.out Hy1.out Hy2.out rfl (by decide) (.slice a1 js.length q1) js.length (jflat js) ?_ HOB.out ⟨U.heap.size, 0, none⟩ 1 1 [.int .i64 jr, .slice na jt.length nc] ?_ rfl (lit2_news HLB.out) HlitO.out (by unfold maxLen; omega) (by omega) (by first | omega | (simp only [World.size_alloc]; omega)) ?_; (focus (simp [Act.eval]; done)); (focus (simp [Act.eval]; done)); intro v2 X2 hown2 hg2; have hfin := just_app (n := js.length) HXB.out HOB.out hg2 hown2 rfl rfl; obtain ⟨hbX2, a2, q2, rfl⟩ := hfin; have HX2 := hide hbX2; have HO2 := hide hown2; obtain ⟨u0, u1, u2, uf⟩ := Hcell.out X2 hbX2; clear hbX2 hown2 hg2))
    all_goals
      clear k0 k1 k2 kf y0 y1 y2 yf u0 u1
      obtain ⟨X3, hX3⟩ : ∃ X3, X2.setCell ⟨W0.heap.size, 1, none⟩ (.slice a2 (js.length + 1) q2) = X3 := ⟨_, rfl⟩
      rw [hX3]
      have hb3 : Below w.heap.size w X3 := by rw [← hX3]; exact (HbU.out.trans (HX2.out.mono HbU.out.size)).setCell (by simp only; omega) _
      have o3 : Only [W0.heap.size] X2 X3 := by rw [← hX3]; exact (Only.refl _ _).setCell (.inl (by simp)) _
      have hs3 : X3.heap[W0.heap.size]? = some (Obj.cells #[.bool gp, .slice a2 (js.length + 1) q2] 90) := by rw [← hX3, setCell_heap ((HX2.out.block W0.heap.size hgU).trans HSU.out)]; rfl
      have hj3 : JsIs X3 (.slice a2 (js.length + 1) q2) (js ++ [⟨jr, jt, .slice na jt.length nc⟩]) := by
        refine JsIs.of_row (B := U.heap.size) (by simp; omega) ?_ (fun z hz => ?_)
        · rw [List.length_append, jflat_append]
          exact owns_only HO2.out o3 (fun k hk hm => by
            have := (HO2.out.lt k hk).1
            simp only [List.mem_singleton] at hm
            omega)
        · rcases List.mem_append.1 hz with hz | hz
          · exact (HG.out.tups z hz).below hb3
          · simp only [List.mem_singleton] at hz
            subst hz
            have hne : ∀ a n c, Value.slice na jt.length nc = .slice (some a) n c → a.block ∉ [W0.heap.size] := fun a n c e hm => by
              cases e
              have := (Hrow.out.lt _ rfl).1
              simp only [List.mem_singleton] at hm
              omega
            exact nis_only (HnU.out.below HX2.out) o3 hne
      obtain ⟨l0, l1, _, _⟩ := cells2e hs3
      have HB3 := H.out.below hb3
      have c3 := (cells1b HB3.blk).1
      have oD : Below X3.heap.size X3 X3.drew := (Only.drew (Only.refl [] X3)).below
      obtain ⟨w1, hrun, hm1, ho1, hsz⟩ := run_mapUpdate (P := Try.prog) (t := 86) Try.underlying86 Try.underlying3 (HB3.below oD).map id (.agg #[.bool gp, .slice a2 (js.length + 1) q2])
      have HF := hide ((HB3.below oD).store (q := ⟨id, gp, js ++ [⟨jr, jt, .slice na jt.length nc⟩], .slice a2 (js.length + 1) q2⟩) hm1 ho1 (hj3.keeps (KeepsCells.below oD)) hwf hl)
      have HO := hide (((Only.of_below hb3 [m]).trans (Only.of_below oD [m])).trans ho1)
      clear hX3 hb3 o3 hs3 hj3 HB3 oD hm1 ho1 hsz u2 uf
      go_wp2_with fail
      go_region
      all_goals
        go_wp2
        go_ret
        exact ⟨rfl, ⟨_, rfl, rfl, by simp [Jc.co], HF.out⟩, HO.out⟩
  · -- there already
    obtain ⟨w1, hrun, hm1, ho1, hsz⟩ := run_mapUpdate (P := Try.prog) (t := 86) Try.underlying86 Try.underlying3 (HHV.out.below (Only.drew (Only.refl [] V)).below).map id (.agg #[.bool gp, .slice ga js.length gc])
    have HF := hide ((HHV.out.below (Only.drew (Only.refl [] V)).below).store (q := ⟨id, gp, js, .slice ga js.length gc⟩) hm1 ho1 (HG.out.keeps (KeepsCells.below (HbV.out.trans ((Only.drew (Only.refl [] V)).below.mono HbV.out.size)))) hwf hl)
    have HO := hide (((Only.of_below HbV.out [m]).trans (Only.of_below (Only.drew (Only.refl [] V)).below [m])).trans ho1)
    clear hm1 ho1 hsz
    go_wp2_with fail
    go_region
    all_goals
      go_wp2
      go_ret
      exact ⟨rfl, ⟨_, rfl, rfl, by simp, HF.out⟩, HO.out⟩
end Go.Proofs.Ytmcajoccfbebiaa
