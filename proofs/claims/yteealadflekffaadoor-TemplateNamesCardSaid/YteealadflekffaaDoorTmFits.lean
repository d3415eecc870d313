/- TemplateFits: the walk. -/
import Derived.Test.YteealadflekffaaDoorTmOwn
import Derived.Test.YteealadflekffaaDoorTm13
namespace Go.Proofs.YteealadflekffaaDoor
open Go Go.RowKit Go.Lib

theorem more_cell {w : World} {b : Nat} {x y : Value} {t : TypeId} (h : w.heap[b]? = some (.cells #[x, y] t (0, 0))) : ∀ j u, [x, y][j]? = some u → w.cell? ((⟨b, 0, none⟩ : Addr).add j) = some u := by
  intro j u hu
  obtain ⟨h0, h1⟩ := cell2 h
  rcases j with _ | _ | j
  · simp only [List.getElem?_cons_zero, Option.some.injEq] at hu
    subst hu
    exact h0
  · simp only [List.getElem?_cons_succ, List.getElem?_cons_zero, Option.some.injEq, Nat.zero_add] at hu
    subst hu
    rw [Addr.add_lit]
    exact h1
  · simp at hu
theorem own_ne {k X n c : Nat} (h : k ≠ X) : some k ≠ (Value.slice (some ⟨X, 0, none⟩) n c).ownBlock := by simpa [Value.ownBlock] using h
theorem fits_more (L : List Tpl) (m : Tpl) (t : Int) (s : List Vl) : fitsN L t s = 5 ∨ fitsN (L ++ [m]) t s = fitsN L t s := by
  by_cases h : t < 0 ∨ L.length ≤ t
  · exact .inl (fits_out h)
  · obtain ⟨j, rfl⟩ : ∃ j : Nat, t = j := ⟨t.toNat, by omega⟩
    have hj : j < L.length := by omega
    have hj2 : j < (L ++ [m]).length := by rw [List.length_append]; omega
    refine .inr ?_
    rw [fits_in hj, fits_in hj2]
    simp only [List.getElem_append_left hj]
theorem tpls_append {w : World} {a : Option Addr} {c : Nat} {L : List Tpl} {m : Tpl} (h : SlAt 2 Tpl.cells w a c (L ++ [m])) (hL : ∀ t ∈ L, TplIs w t) (hm : TplIs w m) : TplsIs w a c (L ++ [m]) :=
  ⟨h, fun t ht => (List.mem_append.1 ht).elim (hL t) fun h => by rw [List.mem_singleton.1 h]; exact hm⟩

set_option maxRecDepth 100000 in
set_option maxHeartbeats 8000000 in
theorem fits_mid (a : Option Addr) (c : Nat) (L : List Tpl) (t : Int) (va : Option Addr) (vc : Nat) (s : List Vl) (nm : ByteArray) (sm : List Slt) (ma : Option Addr) (mc : Nat) (w : World) (hT : Tab w)
    (h : TplsIs w a c L) (hnil : a = none → L.length = 0 ∧ c = 0) (hv : VlsIs w va vc s) (hm : TplIs w ⟨nm, sm, ma, mc⟩) (hg1 : greatB L = false) (hg2 : greatB [⟨nm, sm, ma, mc⟩] = false) (hs : s.length ≤ 30) :
    Calls Tryd.prog 3 #[.slice a L.length c, .int .i64 t, .slice va s.length vc, .agg #[.string nm, .slice ma sm.length mc]] w fun e w' => e = .returned (.bool true) ∧ Below w.heap.size w w' := by
  have hlen : L.length ≤ 30 := by
    unfold greatB at hg1
    simp only [Bool.or_eq_false_iff, decide_eq_false_iff_not] at hg1
    omega
  obtain ⟨i0, hi, hz0, hz1, hz2⟩ := info_partsK infoTpl
  have Hi := hide hi
  have Hz0 := hide hz0
  have Hz1 := hide hz1
  have Hz2 := hide hz2
  have HT := hide hT
  have x0 := heap_new w (.cells #[.string nm, .slice ma sm.length mc] 26)
  have hb0 := (Below.refl w.heap.size w).alloc (Nat.le_refl _) (.cells #[.string nm, .slice ma sm.length mc] 26)
  have G1 := hide (great_any a c L (w.alloc (.cells #[.string nm, .slice ma sm.length mc] 26)) (h.below hb0))
  have x1 := heap_new (w.alloc (.cells #[.string nm, .slice ma sm.length mc] 26)) (.cells #[.string nm, .slice ma sm.length mc] 26)
  rw [World.size_alloc] at x1
  have hb1 := hb0.alloc (by simp) (.cells #[.string nm, .slice ma sm.length mc] 26)
  have hone : TplsIs ((w.alloc (.cells #[.string nm, .slice ma sm.length mc] 26)).alloc (.cells #[.string nm, .slice ma sm.length mc] 26)) (some ⟨w.heap.size + 1, 0, none⟩) 1 [⟨nm, sm, ma, mc⟩] := by
    refine ⟨⟨by simp, by decide, .inl ⟨w.heap.size + 1, 0, rfl, fun i hi j v hv => ?_⟩⟩, fun t ht => by rw [List.mem_singleton.1 ht]; exact hm.below hb1⟩
    obtain rfl : i = 0 := by simp at hi; omega
    obtain ⟨z0, z1⟩ := cell2 x1
    rcases j with _ | _ | j
    · simp only [Tpl.cells, List.getElem_cons_zero, List.getElem?_cons_zero, Option.some.injEq] at hv
      subst hv
      exact z0
    · simp only [Tpl.cells, Tpl.x, List.getElem_cons_zero, List.getElem?_cons_succ, List.getElem?_cons_zero, Option.some.injEq] at hv
      subst hv
      exact z1
    · simp [Tpl.cells] at hv
  have g2 := great_any _ _ _ _ hone
  rw [hg2, show ([(⟨nm, sm, ma, mc⟩ : Tpl)].length) = 1 from rfl] at g2
  have G2 := hide g2
  rw [hg1] at G1
  have Hf1 := hide (fits_any t a c L va vc s ((w.alloc (.cells #[.string nm, .slice ma sm.length mc] 26)).alloc (.cells #[.string nm, .slice ma sm.length mc] 26)) (h.below hb1) (hv.below hb1))
  have Hrfit := hide fun V (hV : Below w.heap.size w V) => rfits_any t a c L va vc s V (h.below hV) (hv.below hV)
  have hfm := fits_more L ⟨nm, sm, ma, mc⟩ t s
  have Hfit0 : Hid (∀ W0, Below w.heap.size w W0 → ∀ V a' c', Below W0.heap.size W0 V → V.ownsRow W0.heap.size 26 2 (.slice a' (L.length + 1) c') (L.length + 1) (L.flatMap Tpl.cells ++ [.string nm, .slice ma sm.length mc]) →
      Calls Tryd.prog 10 #[.slice a' (L.length + 1) c', .int .i64 t, .slice va s.length vc] V fun e w' => e = .returned (.int .i64 (fitsN (L ++ [⟨nm, sm, ma, mc⟩]) t s)) ∧ Below V.heap.size V w') := hide fun W0 hW0 V a' c' hV ho => by
    have hwV := hW0.trans (hV.mono hW0.size)
    have ho2 : V.ownsRow W0.heap.size 26 2 (.slice a' (L.length + 1) c') (L ++ [(⟨nm, sm, ma, mc⟩ : Tpl)]).length ((L ++ [(⟨nm, sm, ma, mc⟩ : Tpl)]).flatMap Tpl.cells) := by
      rw [List.flatMap_append, List.length_append]
      exact ho
    obtain ⟨a2, c2, e2, hsl, _⟩ := SlAt.of_own tplCells ho2
    have hlen2 : (L ++ [(⟨nm, sm, ma, mc⟩ : Tpl)]).length = L.length + 1 := by rw [List.length_append]; rfl
    rw [hlen2] at e2
    cases e2
    have := fits_any t a' c' (L ++ [⟨nm, sm, ma, mc⟩]) va vc s V (tpls_append hsl (fun t ht => (h.2 t ht).below hwV) (hm.below hwV)) (hv.below hwV)
    rw [hlen2] at this
    exact this
  obtain ⟨FE, hFE⟩ : ∃ FE, fitsN L t s = FE := ⟨_, rfl⟩
  obtain ⟨FF, hFF⟩ : ∃ FF, fitsN (L ++ [⟨nm, sm, ma, mc⟩]) t s = FF := ⟨_, rfl⟩
  rw [hFE] at Hf1 Hrfit hfm
  rw [hFF] at Hfit0 hfm
  have HEF := hide hfm
  have Hnil := hide hnil
  have Hb1 : Hid (0 + L.length ≤ maxLen) := (by unfold maxLen Hid; omega)
  have Hb2 : Hid ((0 + L.length) * 40 ≤ 140737488355328) := (by unfold Hid; omega)
  have Hb3 : Hid (L.length + 1 ≤ maxLen) := (by unfold maxLen Hid; omega)
  have Hb4 : Hid ((L.length + 1) * 40 ≤ 140737488355328) := (by unfold Hid; omega)
  have Hnews0 : Hid (∀ V, Below w.heap.size w V → ∀ p, a = some p → ∀ j u, (L.flatMap Tpl.cells)[j]? = some u → V.cell? (p.add j) = some u) := hide fun V hV p hp => by
    subst hp
    exact SlAt.news tplCells (by decide) (h.1.below hV)
  have Hbox0 : Hid (∀ V, Below ((w.alloc (.cells #[.string nm, .slice ma sm.length mc] 26)).alloc (.cells #[.string nm, .slice ma sm.length mc] 26)).heap.size ((w.alloc (.cells #[.string nm, .slice ma sm.length mc] 26)).alloc (.cells #[.string nm, .slice ma sm.length mc] 26)) V →
      V.cell? ⟨w.heap.size, 0, none⟩ = some (.string nm) ∧ V.cell? ⟨w.heap.size, 1, none⟩ = some (.slice ma sm.length mc)) := hide fun V hV =>
    cell2 ((hV.block _ (by simp; omega)).trans ((Below.heap_alloc _ _ _ (lt_of_block x0)).trans x0))
  have B1 := hide hb1
  have ds : (s.length : Int) ≤ 30 := by omega
  have ds' : decide ((30 : Int) < s.length) = false := by simp; omega
  clear hT h hv hm hg1 hg2 hb0 hb1 hone g2 x0 x1 hi hz0 hz1 hz2 hFE hFF hfm hnil hs hlen
  go_enter Tryd.func3, Tryd.ntmps3
  go_wp2_with fail
  (with_reducible refine G1.out.mono ?_)
  rintro e U ⟨rfl, rfl⟩
  go_wp2_with fail
  (with_reducible refine G2.out.mono ?_)
  rintro e U ⟨rfl, rfl⟩
  go_wp2_with fail
  (with_reducible refine Hf1.out.mono ?_)
  rintro e U1 ⟨rfl, hu1⟩
  have Hb0 := hide ((B1.out.trans (hu1.mono B1.out.size)).drew)
  have hu2 := hu1.drew
  have Hbox := hide fun V (hV : Below U1.drew.heap.size U1.drew V) => Hbox0.out V (hu2.trans (hV.mono hu2.size))
  clear hu2
  clear hu1
  go_wp2_with fail
  obtain ⟨W0, hW0⟩ : ∃ W0, U1.drew = W0 := ⟨_, rfl⟩
  rw [hW0] at Hb0 Hbox
  have bW0 : Below W0.heap.size W0 W0 := Below.refl _ _
  obtain ⟨y0W0, y1W0⟩ := Hbox.out W0 bW0
  have Hfit := hide (Hfit0.out W0 Hb0.out)
  have Hnews := hide fun V (hV : Below W0.heap.size W0 V) => Hnews0.out V (Hb0.out.trans (hV.mono Hb0.out.size))
  refine wp_region_noPanic ?_
  refine wp_region_held_drew (S := fun V => V.cell? ⟨w.heap.size, 0, none⟩ = some (.string nm) ∧ V.cell? ⟨w.heap.size, 1, none⟩ = some (.slice ma sm.length mc)) (by kernel_rfl) ?_ (fun hHeld => ?_)
  · (try dsimp only); go_keep
  rw [hW0] at hHeld ⊢
  clear hW0
  refine wpAnyH_take (i := 1) (oi := ⟨some 29, _, _, _, _, _⟩) (v := ?vf1) rfl (by kernel_rfl) (by kernel_rfl) (by kernel_rfl) (fun _ _ _ h => h) (Or.inl ⟨by rfl, ?hf1⟩) (by assumption) ?rf1
  case hf1 => (intro w hSw; (try dsimp only at hSw); (first | (go_simp; done) | (go_simp; with_reducible rfl)))
  try simp only [Act.put, List.setIfInBounds_toArray, List.set_cons_zero, List.set_cons_succ]
  refine wpAnyH_take (i := 3) (oi := ⟨some 31, _, _, _, _, _⟩) (v := ?vf2) rfl (by kernel_rfl) (by kernel_rfl) (by kernel_rfl) (fun _ _ _ h => h) (Or.inl ⟨by rfl, ?hf2⟩) (by assumption) ?rf2
  case hf2 => (intro w hSw; (try dsimp only at hSw); (first | (go_simp; done) | (go_simp; with_reducible rfl)))
  try simp only [Act.put, List.setIfInBounds_toArray, List.set_cons_zero, List.set_cons_succ]
  refine wpAnyH_take (i := 6) (oi := ⟨some 34, _, _, _, _, _⟩) (v := ?vf3) rfl (by kernel_rfl) (by kernel_rfl) (by kernel_rfl) (fun _ _ _ h => h) (Or.inl ⟨by rfl, ?hf3⟩) (by assumption) ?rf3
  case hf3 => (intro w hSw; (try dsimp only at hSw); (first | (go_simp; done) | (go_simp; with_reducible rfl)))
  try simp only [Act.put, List.setIfInBounds_toArray, List.set_cons_zero, List.set_cons_succ]
  refine wpAnyH_take (i := 7) (oi := ⟨some 35, _, _, _, _, _⟩) (v := ?vf4) rfl (by kernel_rfl) (by kernel_rfl) (by kernel_rfl) (fun _ _ _ h => h) (Or.inl ⟨by rfl, ?hf4⟩) (by assumption) ?rf4
  case hf4 => (intro w hSw; (try dsimp only at hSw); (first | (go_simp; done) | (go_simp; with_reducible rfl)))
  try simp only [Act.put, List.setIfInBounds_toArray, List.set_cons_zero, List.set_cons_succ]
  refine wpAnyH_ready (rs := [0, 4]) (by kernel_rfl) (by simp) ?_
  refine (AllReadyH.cons (o := ⟨some 28, _, _, _, _, _⟩) (rs := [4]) rfl (fun K hK => ?_) (AllReadyH.cons (o := ⟨some 32, _, _, _, _, _⟩) (rs := []) rfl (fun K hK => ?_) AllReadyH.nil))
  · have xV1f := heap_new W0 (.cells #[] 26)
    have cV1f := (Below.refl W0.heap.size W0).alloc (Nat.le_refl _) (.cells #[] 26)
    obtain ⟨V1f, eV1f⟩ : ∃ V, W0.alloc (.cells #[] 26) = V := ⟨_, rfl⟩
    rw [eV1f] at xV1f cV1f
    have bV1f := bW0.trans (cV1f.mono bW0.size)
    obtain ⟨y0V1f, y1V1f⟩ := Hbox.out V1f bV1f
    go_simp
    clear eV1f
    try go_wp2_with fail
    clear hHeld
    refine hK.out _ _ ?_ (fun hHeld => ?_)
    · (try dsimp only); go_keep
    clear hK K
    try simp only [Act.put, List.setIfInBounds_toArray, List.set_cons_zero, List.set_cons_succ]
    refine wpAnyH_ready (rs := [2, 4]) (by kernel_rfl) (by simp) ?_
    refine (AllReadyH.cons (o := ⟨some 30, _, _, _, _, _⟩) (rs := [4]) rfl (fun K hK => ?_) (AllReadyH.cons (o := ⟨some 32, _, _, _, _, _⟩) (rs := []) rfl (fun K hK => ?_) AllReadyH.nil))
    · refine step_append_in rfl (.tmp 28) (.tmp 29) 22 rfl W0.heap.size 26 i0 (.agg #[.string ⟨#[]⟩, .slice none 0 0]) 2 40 Tryd.underlying22 Hi.out Hz0.out Hz1.out Hz2.out rfl (by decide) (.slice (some ⟨W0.heap.size, 0, none⟩) 0 0) 0 [] (by simp [Act.eval]) (own_empty (B := W0.heap.size) (k := 2) xV1f bW0.size) a L.length c (L.flatMap Tpl.cells) (by simp [Act.eval]) Hnil.out (flat_len tplCells L) (Hnews.out V1f bV1f) (tpl_one L) Hb1.out Hb2.out bV1f.size ?_
      intro uV2f V2f oV2f gV2f
      rw [Nat.zero_add, List.nil_append] at oV2f
      obtain ⟨aV2f, kV2f, rfl⟩ := own_form oV2f
      have bV2f : Below W0.heap.size W0 V2f := bV1f.grown gV2f bV1f.size (fun k e => (World.ownsRow.lt (own_empty (B := W0.heap.size) (k := 2) xV1f bW0.size) k e).1)
      obtain ⟨y0V2f, y1V2f⟩ := Hbox.out V2f bV2f
      clear hHeld
      refine hK.out _ _ ?_ (fun hHeld => ?_)
      · (try dsimp only); go_keep
      clear hK K
      try simp only [Act.put, List.setIfInBounds_toArray, List.set_cons_zero, List.set_cons_succ]
      refine wpAnyH_ready (rs := [4]) (by kernel_rfl) (by simp) ?_
      refine (AllReadyH.cons (o := ⟨some 32, _, _, _, _, _⟩) (rs := []) rfl (fun K hK => ?_) AllReadyH.nil)
      have xV3f := heap_new V2f (.cells #[.string nm, .slice ma sm.length mc] 26)
      have cV3f := (Below.refl V2f.heap.size V2f).alloc (Nat.le_refl _) (.cells #[.string nm, .slice ma sm.length mc] 26)
      obtain ⟨V3f, eV3f⟩ : ∃ V, V2f.alloc (.cells #[.string nm, .slice ma sm.length mc] 26) = V := ⟨_, rfl⟩
      rw [eV3f] at xV3f cV3f
      have bV3f := bV2f.trans (cV3f.mono bV2f.size)
      obtain ⟨y0V3f, y1V3f⟩ := Hbox.out V3f bV3f
      go_simp
      clear eV3f
      try go_wp2_with fail
      clear hHeld
      refine hK.out _ _ ?_ (fun hHeld => ?_)
      · (try dsimp only); go_keep
      clear hK K
      try simp only [Act.put, List.setIfInBounds_toArray, List.set_cons_zero, List.set_cons_succ]
      refine wpAnyH_ready (rs := [5]) (by kernel_rfl) (by simp) ?_
      refine (AllReadyH.cons (o := ⟨some 33, _, _, _, _, _⟩) (rs := []) rfl (fun K hK => ?_) AllReadyH.nil)
      have dV4f := more_cell xV3f
      refine step_append_own rfl (.tmp 30) (.tmp 32) 22 rfl W0.heap.size 26 i0 (.agg #[.string ⟨#[]⟩, .slice none 0 0]) 2 40 Tryd.underlying22 Hi.out Hz0.out Hz1.out Hz2.out rfl (by decide) (.slice aV2f L.length kV2f) L.length (L.flatMap Tpl.cells) (by simp [Act.eval]) (own_below oV2f cV3f) ⟨V2f.heap.size, 0, none⟩ 1 1 [.string nm, .slice ma sm.length mc] (by simp [Act.eval]) rfl dV4f (tpl_one [⟨nm, sm, ma, mc⟩]) Hb3.out Hb4.out bV3f.size ?_
      intro uV4f V4f oV4f gV4f
      obtain ⟨aV4f, kV4f, rfl⟩ := own_form oV4f
      have bV4f : Below W0.heap.size W0 V4f := bV3f.grown gV4f bV3f.size (fun k e => (World.ownsRow.lt (own_below oV2f cV3f) k e).1)
      obtain ⟨y0V4f, y1V4f⟩ := Hbox.out V4f bV4f
      clear hHeld
      refine hK.out _ _ ?_ (fun hHeld => ?_)
      · (try dsimp only); go_keep
      clear hK K
      try simp only [Act.put, List.setIfInBounds_toArray, List.set_cons_zero, List.set_cons_succ]
      refine wpAnyH_ready (rs := [8]) (by kernel_rfl) (by simp) ?_
      refine (AllReadyH.cons (o := ⟨some 36, _, _, _, _, _⟩) (rs := []) rfl (fun K hK => ?_) AllReadyH.nil)
      go_simp
      go_at_call 10
      refine (Hfit.out V4f _ _ bV4f oV4f).mono ?_
      rintro e V5f ⟨rfl, cV5f⟩
      have bV5f := bV4f.trans (cV5f.mono bV4f.size)
      obtain ⟨y0V5f, y1V5f⟩ := Hbox.out V5f bV5f
      try go_wp2_with fail
      clear hHeld
      refine hK.out _ _ ?_ (fun hHeld => ?_)
      · (try dsimp only); go_keep
      clear hK K
      try simp only [Act.put, List.setIfInBounds_toArray, List.set_cons_zero, List.set_cons_succ]
      refine wpAnyH_take (i := 9) (oi := ⟨some 10, _, _, _, _, _⟩) (v := ?vf5) rfl (by kernel_rfl) (by kernel_rfl) (by kernel_rfl) (fun _ _ _ h => h) (Or.inl ⟨by rfl, ?hf5⟩) (by assumption) ?rf5
      case hf5 => (intro w hSw; (try dsimp only at hSw); (first | (go_simp; done) | (go_simp; with_reducible rfl)))
      try simp only [Act.put, List.setIfInBounds_toArray, List.set_cons_zero, List.set_cons_succ]
      refine wpAnyH_done (by kernel_rfl) ?_ _
      refine NoPanic.normal ?_
      have B2 := hide (Hb0.out.trans (bV5f.mono Hb0.out.size))
      have Hr := hide (Hrfit.out V5f B2.out)
      have Hkn := hide fun U (hU : Below w.heap.size w U) => known_any U (HT.out.below hU)
      clear hHeld bV5f y0V5f y1V5f
      go_wp2_with fail
      (with_reducible refine Hr.out.mono ?_)
      rintro e X1 ⟨rfl, hx1⟩
      have X1b := hide (B2.out.trans (hx1.mono B2.out.size))
      clear hx1
      rcases HEF.out with hE | hF
      · subst hE
        go_wp2_with fail
        (with_reducible refine (Hkn.out X1 X1b.out).mono ?_)
        rintro e X2 ⟨rfl, hx2⟩
        have X2b := hide (X1b.out.trans (hx2.mono X1b.out.size))
        clear hx2
        go_wp2
        go_ret
        exact ⟨rfl, X2b.out⟩
      · subst hF
        by_cases hE : FF = 5
        · subst hE
          go_wp2_with fail
          (with_reducible refine (Hkn.out X1 X1b.out).mono ?_)
          rintro e X2 ⟨rfl, hx2⟩
          have X2b := hide (X1b.out.trans (hx2.mono X1b.out.size))
          clear hx2
          go_wp2
          go_ret
          exact ⟨rfl, X2b.out⟩
        · have e5 : (FF == 5) = false := by simpa using hE
          clear hE
          go_wp2_with fail
          (with_reducible refine (Hkn.out X1 X1b.out).mono ?_)
          rintro e X2 ⟨rfl, hx2⟩
          have X2b := hide (X1b.out.trans (hx2.mono X1b.out.size))
          clear hx2
          go_wp2
          go_ret
          exact ⟨rfl, X2b.out⟩
    · have xV6f := heap_new V1f (.cells #[.string nm, .slice ma sm.length mc] 26)
      have cV6f := (Below.refl V1f.heap.size V1f).alloc (Nat.le_refl _) (.cells #[.string nm, .slice ma sm.length mc] 26)
      obtain ⟨V6f, eV6f⟩ : ∃ V, V1f.alloc (.cells #[.string nm, .slice ma sm.length mc] 26) = V := ⟨_, rfl⟩
      rw [eV6f] at xV6f cV6f
      have bV6f := bV1f.trans (cV6f.mono bV1f.size)
      obtain ⟨y0V6f, y1V6f⟩ := Hbox.out V6f bV6f
      go_simp
      clear eV6f
      try go_wp2_with fail
      clear hHeld
      refine hK.out _ _ ?_ (fun hHeld => ?_)
      · (try dsimp only); go_keep
      clear hK K
      try simp only [Act.put, List.setIfInBounds_toArray, List.set_cons_zero, List.set_cons_succ]
      refine wpAnyH_ready (rs := [2]) (by kernel_rfl) (by simp) ?_
      refine (AllReadyH.cons (o := ⟨some 30, _, _, _, _, _⟩) (rs := []) rfl (fun K hK => ?_) AllReadyH.nil)
      refine step_append_in rfl (.tmp 28) (.tmp 29) 22 rfl W0.heap.size 26 i0 (.agg #[.string ⟨#[]⟩, .slice none 0 0]) 2 40 Tryd.underlying22 Hi.out Hz0.out Hz1.out Hz2.out rfl (by decide) (.slice (some ⟨W0.heap.size, 0, none⟩) 0 0) 0 [] (by simp [Act.eval]) (own_below (own_empty (B := W0.heap.size) (k := 2) xV1f bW0.size) cV6f) a L.length c (L.flatMap Tpl.cells) (by simp [Act.eval]) Hnil.out (flat_len tplCells L) (Hnews.out V6f bV6f) (tpl_one L) Hb1.out Hb2.out bV6f.size ?_
      intro uV7f V7f oV7f gV7f
      rw [Nat.zero_add, List.nil_append] at oV7f
      obtain ⟨aV7f, kV7f, rfl⟩ := own_form oV7f
      have bV7f : Below W0.heap.size W0 V7f := bV6f.grown gV7f bV6f.size (fun k e => (World.ownsRow.lt (own_below (own_empty (B := W0.heap.size) (k := 2) xV1f bW0.size) cV6f) k e).1)
      obtain ⟨y0V7f, y1V7f⟩ := Hbox.out V7f bV7f
      clear hHeld
      refine hK.out _ _ ?_ (fun hHeld => ?_)
      · (try dsimp only); go_keep
      clear hK K
      try simp only [Act.put, List.setIfInBounds_toArray, List.set_cons_zero, List.set_cons_succ]
      refine wpAnyH_ready (rs := [5]) (by kernel_rfl) (by simp) ?_
      refine (AllReadyH.cons (o := ⟨some 33, _, _, _, _, _⟩) (rs := []) rfl (fun K hK => ?_) AllReadyH.nil)
      have dV8f := more_cell ((gV7f.block V1f.heap.size (lt_of_block xV6f) (own_ne (by have h0 := lt_of_block xV1f; have h1 := lt_of_block xV6f; omega))).trans xV6f)
      refine step_append_own rfl (.tmp 30) (.tmp 32) 22 rfl W0.heap.size 26 i0 (.agg #[.string ⟨#[]⟩, .slice none 0 0]) 2 40 Tryd.underlying22 Hi.out Hz0.out Hz1.out Hz2.out rfl (by decide) (.slice aV7f L.length kV7f) L.length (L.flatMap Tpl.cells) (by simp [Act.eval]) oV7f ⟨V1f.heap.size, 0, none⟩ 1 1 [.string nm, .slice ma sm.length mc] (by simp [Act.eval]) rfl dV8f (tpl_one [⟨nm, sm, ma, mc⟩]) Hb3.out Hb4.out bV7f.size ?_
      intro uV8f V8f oV8f gV8f
      obtain ⟨aV8f, kV8f, rfl⟩ := own_form oV8f
      have bV8f : Below W0.heap.size W0 V8f := bV7f.grown gV8f bV7f.size (fun k e => (World.ownsRow.lt oV7f k e).1)
      obtain ⟨y0V8f, y1V8f⟩ := Hbox.out V8f bV8f
      clear hHeld
      refine hK.out _ _ ?_ (fun hHeld => ?_)
      · (try dsimp only); go_keep
      clear hK K
      try simp only [Act.put, List.setIfInBounds_toArray, List.set_cons_zero, List.set_cons_succ]
      refine wpAnyH_ready (rs := [8]) (by kernel_rfl) (by simp) ?_
      refine (AllReadyH.cons (o := ⟨some 36, _, _, _, _, _⟩) (rs := []) rfl (fun K hK => ?_) AllReadyH.nil)
      go_simp
      go_at_call 10
      refine (Hfit.out V8f _ _ bV8f oV8f).mono ?_
      rintro e V9f ⟨rfl, cV9f⟩
      have bV9f := bV8f.trans (cV9f.mono bV8f.size)
      obtain ⟨y0V9f, y1V9f⟩ := Hbox.out V9f bV9f
      try go_wp2_with fail
      clear hHeld
      refine hK.out _ _ ?_ (fun hHeld => ?_)
      · (try dsimp only); go_keep
      clear hK K
      try simp only [Act.put, List.setIfInBounds_toArray, List.set_cons_zero, List.set_cons_succ]
      refine wpAnyH_take (i := 9) (oi := ⟨some 10, _, _, _, _, _⟩) (v := ?vf6) rfl (by kernel_rfl) (by kernel_rfl) (by kernel_rfl) (fun _ _ _ h => h) (Or.inl ⟨by rfl, ?hf6⟩) (by assumption) ?rf6
      case hf6 => (intro w hSw; (try dsimp only at hSw); (first | (go_simp; done) | (go_simp; with_reducible rfl)))
      try simp only [Act.put, List.setIfInBounds_toArray, List.set_cons_zero, List.set_cons_succ]
      refine wpAnyH_done (by kernel_rfl) ?_ _
      refine NoPanic.normal ?_
      have B2 := hide (Hb0.out.trans (bV9f.mono Hb0.out.size))
      have Hr := hide (Hrfit.out V9f B2.out)
      have Hkn := hide fun U (hU : Below w.heap.size w U) => known_any U (HT.out.below hU)
      clear hHeld bV9f y0V9f y1V9f
      go_wp2_with fail
      (with_reducible refine Hr.out.mono ?_)
      rintro e X1 ⟨rfl, hx1⟩
      have X1b := hide (B2.out.trans (hx1.mono B2.out.size))
      clear hx1
      rcases HEF.out with hE | hF
      · subst hE
        go_wp2_with fail
        (with_reducible refine (Hkn.out X1 X1b.out).mono ?_)
        rintro e X2 ⟨rfl, hx2⟩
        have X2b := hide (X1b.out.trans (hx2.mono X1b.out.size))
        clear hx2
        go_wp2
        go_ret
        exact ⟨rfl, X2b.out⟩
      · subst hF
        by_cases hE : FF = 5
        · subst hE
          go_wp2_with fail
          (with_reducible refine (Hkn.out X1 X1b.out).mono ?_)
          rintro e X2 ⟨rfl, hx2⟩
          have X2b := hide (X1b.out.trans (hx2.mono X1b.out.size))
          clear hx2
          go_wp2
          go_ret
          exact ⟨rfl, X2b.out⟩
        · have e5 : (FF == 5) = false := by simpa using hE
          clear hE
          go_wp2_with fail
          (with_reducible refine (Hkn.out X1 X1b.out).mono ?_)
          rintro e X2 ⟨rfl, hx2⟩
          have X2b := hide (X1b.out.trans (hx2.mono X1b.out.size))
          clear hx2
          go_wp2
          go_ret
          exact ⟨rfl, X2b.out⟩
  · have xV10f := heap_new W0 (.cells #[.string nm, .slice ma sm.length mc] 26)
    have cV10f := (Below.refl W0.heap.size W0).alloc (Nat.le_refl _) (.cells #[.string nm, .slice ma sm.length mc] 26)
    obtain ⟨V10f, eV10f⟩ : ∃ V, W0.alloc (.cells #[.string nm, .slice ma sm.length mc] 26) = V := ⟨_, rfl⟩
    rw [eV10f] at xV10f cV10f
    have bV10f := bW0.trans (cV10f.mono bW0.size)
    obtain ⟨y0V10f, y1V10f⟩ := Hbox.out V10f bV10f
    go_simp
    clear eV10f
    try go_wp2_with fail
    clear hHeld
    refine hK.out _ _ ?_ (fun hHeld => ?_)
    · (try dsimp only); go_keep
    clear hK K
    try simp only [Act.put, List.setIfInBounds_toArray, List.set_cons_zero, List.set_cons_succ]
    refine wpAnyH_ready (rs := [0]) (by kernel_rfl) (by simp) ?_
    refine (AllReadyH.cons (o := ⟨some 28, _, _, _, _, _⟩) (rs := []) rfl (fun K hK => ?_) AllReadyH.nil)
    have xV11f := heap_new V10f (.cells #[] 26)
    have cV11f := (Below.refl V10f.heap.size V10f).alloc (Nat.le_refl _) (.cells #[] 26)
    obtain ⟨V11f, eV11f⟩ : ∃ V, V10f.alloc (.cells #[] 26) = V := ⟨_, rfl⟩
    rw [eV11f] at xV11f cV11f
    have bV11f := bV10f.trans (cV11f.mono bV10f.size)
    obtain ⟨y0V11f, y1V11f⟩ := Hbox.out V11f bV11f
    go_simp
    clear eV11f
    try go_wp2_with fail
    clear hHeld
    refine hK.out _ _ ?_ (fun hHeld => ?_)
    · (try dsimp only); go_keep
    clear hK K
    try simp only [Act.put, List.setIfInBounds_toArray, List.set_cons_zero, List.set_cons_succ]
    refine wpAnyH_ready (rs := [2]) (by kernel_rfl) (by simp) ?_
    refine (AllReadyH.cons (o := ⟨some 30, _, _, _, _, _⟩) (rs := []) rfl (fun K hK => ?_) AllReadyH.nil)
    refine step_append_in rfl (.tmp 28) (.tmp 29) 22 rfl W0.heap.size 26 i0 (.agg #[.string ⟨#[]⟩, .slice none 0 0]) 2 40 Tryd.underlying22 Hi.out Hz0.out Hz1.out Hz2.out rfl (by decide) (.slice (some ⟨V10f.heap.size, 0, none⟩) 0 0) 0 [] (by simp [Act.eval]) (own_empty (B := W0.heap.size) (k := 2) xV11f bV10f.size) a L.length c (L.flatMap Tpl.cells) (by simp [Act.eval]) Hnil.out (flat_len tplCells L) (Hnews.out V11f bV11f) (tpl_one L) Hb1.out Hb2.out bV11f.size ?_
    intro uV12f V12f oV12f gV12f
    rw [Nat.zero_add, List.nil_append] at oV12f
    obtain ⟨aV12f, kV12f, rfl⟩ := own_form oV12f
    have bV12f : Below W0.heap.size W0 V12f := bV11f.grown gV12f bV11f.size (fun k e => (World.ownsRow.lt (own_empty (B := W0.heap.size) (k := 2) xV11f bV10f.size) k e).1)
    obtain ⟨y0V12f, y1V12f⟩ := Hbox.out V12f bV12f
    clear hHeld
    refine hK.out _ _ ?_ (fun hHeld => ?_)
    · (try dsimp only); go_keep
    clear hK K
    try simp only [Act.put, List.setIfInBounds_toArray, List.set_cons_zero, List.set_cons_succ]
    refine wpAnyH_ready (rs := [5]) (by kernel_rfl) (by simp) ?_
    refine (AllReadyH.cons (o := ⟨some 33, _, _, _, _, _⟩) (rs := []) rfl (fun K hK => ?_) AllReadyH.nil)
    have dV13f := more_cell ((gV12f.block W0.heap.size (lt_of_block ((cV11f.block _ (lt_of_block xV10f)).trans xV10f)) (own_ne (by have h0 := lt_of_block xV10f; have h1 := lt_of_block xV11f; omega))).trans ((cV11f.block _ (lt_of_block xV10f)).trans xV10f))
    refine step_append_own rfl (.tmp 30) (.tmp 32) 22 rfl W0.heap.size 26 i0 (.agg #[.string ⟨#[]⟩, .slice none 0 0]) 2 40 Tryd.underlying22 Hi.out Hz0.out Hz1.out Hz2.out rfl (by decide) (.slice aV12f L.length kV12f) L.length (L.flatMap Tpl.cells) (by simp [Act.eval]) oV12f ⟨W0.heap.size, 0, none⟩ 1 1 [.string nm, .slice ma sm.length mc] (by simp [Act.eval]) rfl dV13f (tpl_one [⟨nm, sm, ma, mc⟩]) Hb3.out Hb4.out bV12f.size ?_
    intro uV13f V13f oV13f gV13f
    obtain ⟨aV13f, kV13f, rfl⟩ := own_form oV13f
    have bV13f : Below W0.heap.size W0 V13f := bV12f.grown gV13f bV12f.size (fun k e => (World.ownsRow.lt oV12f k e).1)
    obtain ⟨y0V13f, y1V13f⟩ := Hbox.out V13f bV13f
    clear hHeld
    refine hK.out _ _ ?_ (fun hHeld => ?_)
    · (try dsimp only); go_keep
    clear hK K
    try simp only [Act.put, List.setIfInBounds_toArray, List.set_cons_zero, List.set_cons_succ]
    refine wpAnyH_ready (rs := [8]) (by kernel_rfl) (by simp) ?_
    refine (AllReadyH.cons (o := ⟨some 36, _, _, _, _, _⟩) (rs := []) rfl (fun K hK => ?_) AllReadyH.nil)
    go_simp
    go_at_call 10
    refine (Hfit.out V13f _ _ bV13f oV13f).mono ?_
    rintro e V14f ⟨rfl, cV14f⟩
    have bV14f := bV13f.trans (cV14f.mono bV13f.size)
    obtain ⟨y0V14f, y1V14f⟩ := Hbox.out V14f bV14f
    try go_wp2_with fail
    clear hHeld
    refine hK.out _ _ ?_ (fun hHeld => ?_)
    · (try dsimp only); go_keep
    clear hK K
    try simp only [Act.put, List.setIfInBounds_toArray, List.set_cons_zero, List.set_cons_succ]
    refine wpAnyH_take (i := 9) (oi := ⟨some 10, _, _, _, _, _⟩) (v := ?vf7) rfl (by kernel_rfl) (by kernel_rfl) (by kernel_rfl) (fun _ _ _ h => h) (Or.inl ⟨by rfl, ?hf7⟩) (by assumption) ?rf7
    case hf7 => (intro w hSw; (try dsimp only at hSw); (first | (go_simp; done) | (go_simp; with_reducible rfl)))
    try simp only [Act.put, List.setIfInBounds_toArray, List.set_cons_zero, List.set_cons_succ]
    refine wpAnyH_done (by kernel_rfl) ?_ _
    refine NoPanic.normal ?_
    have B2 := hide (Hb0.out.trans (bV14f.mono Hb0.out.size))
    have Hr := hide (Hrfit.out V14f B2.out)
    have Hkn := hide fun U (hU : Below w.heap.size w U) => known_any U (HT.out.below hU)
    clear hHeld bV14f y0V14f y1V14f
    go_wp2_with fail
    (with_reducible refine Hr.out.mono ?_)
    rintro e X1 ⟨rfl, hx1⟩
    have X1b := hide (B2.out.trans (hx1.mono B2.out.size))
    clear hx1
    rcases HEF.out with hE | hF
    · subst hE
      go_wp2_with fail
      (with_reducible refine (Hkn.out X1 X1b.out).mono ?_)
      rintro e X2 ⟨rfl, hx2⟩
      have X2b := hide (X1b.out.trans (hx2.mono X1b.out.size))
      clear hx2
      go_wp2
      go_ret
      exact ⟨rfl, X2b.out⟩
    · subst hF
      by_cases hE : FF = 5
      · subst hE
        go_wp2_with fail
        (with_reducible refine (Hkn.out X1 X1b.out).mono ?_)
        rintro e X2 ⟨rfl, hx2⟩
        have X2b := hide (X1b.out.trans (hx2.mono X1b.out.size))
        clear hx2
        go_wp2
        go_ret
        exact ⟨rfl, X2b.out⟩
      · have e5 : (FF == 5) = false := by simpa using hE
        clear hE
        go_wp2_with fail
        (with_reducible refine (Hkn.out X1 X1b.out).mono ?_)
        rintro e X2 ⟨rfl, hx2⟩
        have X2b := hide (X1b.out.trans (hx2.mono X1b.out.size))
        clear hx2
        go_wp2
        go_ret
        exact ⟨rfl, X2b.out⟩
end Go.Proofs.YteealadflekffaaDoor
