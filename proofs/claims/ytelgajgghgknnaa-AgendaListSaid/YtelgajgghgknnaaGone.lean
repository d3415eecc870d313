/- The walk of witanlaw27.AgendaGone. -/
import Derived.Test.YtelgajgghgknnaaOnce
import Derived.Test.YtelgajgghgknnaaGoneLaw
namespace Go.Proofs.Ytelgajgghgknnaa
open Go Go.RowKit Go.MapKept Go.Sort

theorem u64_idx (k : Int) (n : Nat) (h : 0 < n) : ∃ j : Nat, j < n ∧ (IntKind.u64.wrap k).tmod (n : Int) = (j : Int) := by
  have h0 : 0 ≤ IntKind.u64.wrap k := by
    simp [IntKind.wrap, IntKind.signed, IntKind.bits]
    omega
  obtain ⟨u, hu⟩ : ∃ u : Nat, IntKind.u64.wrap k = (u : Int) := ⟨(IntKind.u64.wrap k).toNat, by omega⟩
  refine ⟨u % n, Nat.mod_lt _ h, ?_⟩
  rw [hu]
  rfl

theorem dropAll_uniq (g : List Ac) : ∀ {l : List En}, Uniq l → Uniq (g.foldl dropped l) := by
  induction g with
  | nil => exact fun h => h
  | cons x g ih => exact fun h => ih (dropped_uniq h x)

theorem one_acts {b c : Nat} {v : Value} {w' : World} {X : Ac} {ru su : Int} {tu : List Int} {ax : Value} (hX : (⟨ru, tu, su, ax⟩ : Ac) = X) (hc : w'.heap[c]? = some (.cells #[.int .i64 ru, ax, .int .i64 su] 27 (0, 0))) (hn : c ∉ b :: v.ownBlock.toList) (hx : ∀ V, AgOnly b v w' V → NIs V X.x X.tup) :
    ∀ V, AgOnly b v w' V → ActsIs V (.slice (some ⟨c, 0, none⟩) 1 1) [X] := fun V hV => by
  subst hX
  exact acts_cells ((hV.block c (lt_of_heap hc) hn).trans hc) (hx V hV)

theorem row_notin {B b : Nat} {w : World} {s : Int} {v : Value} {l : List En} (h : AgIs B w b s v l) : w.heap.size ∉ b :: v.ownBlock.toList := by
  simp only [List.mem_cons, Option.mem_toList, not_or]
  exact ⟨by have := lt_of_heap h.blk; omega, fun e => by have := (h.ens.own.lt _ e).2; omega⟩

set_option maxRecDepth 100000 in
set_option maxHeartbeats 8000000 in
theorem gone_walk (s k : Int) (vc vm : Value) (lc lm : List ActD) (w : World) (hc : ActsD w vc lc) (hm : ActsD w vm lm) :
    Calls Try.prog 3 #[.int .u8 s, vc, vm, .int .i64 k] w fun e w' => e = .returned (.bool true) ∧ Below w.heap.size w w' := by
  have Hg1 := hide (greatD_any vc lc 20 (by omega) w hc)
  have Hg2 := hide (greatD_any vm lm 20 (by omega) w hm)
  obtain ⟨vca, vcc, rfl⟩ := hc.form
  obtain ⟨vma, vmc, rfl⟩ := hm.form
  have hcl := hc.1.1
  have hcap := hc.1.2
  cases hgc : greatD lc 20 with
  | true =>
    rw [hgc] at Hg1
    clear hgc
    go_enter Try.func3, Try.ntmps3
    go_wp2_with fail
    (with_reducible refine Hg1.out.mono ?_)
    rintro e w' ⟨rfl, hw⟩
    rw [hw]
    clear hw
    go_wp2_with (go_at_call 9; refine (known27_walk _).mono ?_; rintro e w' ⟨rfl, hk⟩)
    go_ret
    exact ⟨rfl, hk⟩
  | false =>
  rw [hgc] at Hg1
  cases hgm : greatD lm 20 with
  | true =>
    rw [hgm] at Hg2
    clear hgc hgm
    go_enter Try.func3, Try.ntmps3
    go_wp2_with fail
    (with_reducible refine Hg1.out.mono ?_)
    rintro e w' ⟨rfl, hw⟩
    rw [hw]
    clear hw
    go_wp2_with fail
    (with_reducible refine Hg2.out.mono ?_)
    rintro e w' ⟨rfl, hw⟩
    rw [hw]
    clear hw
    go_wp2_with (go_at_call 9; refine (known27_walk _).mono ?_; rintro e w' ⟨rfl, hk⟩)
    go_ret
    exact ⟨rfl, hk⟩
  | false =>
  rw [hgm] at Hg2
  obtain ⟨hc60, hc20⟩ := greatD_false hgc
  obtain ⟨hm60, hm20⟩ := greatD_false hgm
  clear hgc hgm
  have hC := hc.acts (by omega) (fun g hg => Nat.le_trans (hc20 g hg) (by omega))
  have hM := hm.acts (by omega) (fun g hg => Nat.le_trans (hm20 g hg) (by omega))
  obtain ⟨C, hCe⟩ : ∃ C, lc.map ActD.ac = C := ⟨_, rfl⟩
  obtain ⟨M, hMe⟩ : ∃ M, lm.map ActD.ac = M := ⟨_, rfl⟩
  rw [hCe] at hC
  rw [hMe] at hM
  have hlc : lc.length = C.length := by rw [← hCe]; simp
  have hlm : lm.length = M.length := by rw [← hMe]; simp
  rw [hlc] at hC hc60 Hg1 hcap ⊢
  rw [hlm] at hM hm60 Hg2 ⊢
  have hcc : C.length ≤ vcc := hcap
  clear hc hm hc20 hm20 hCe hMe hlc hlm hcl hcap
  by_cases h0 : C.length = 0
  · rw [h0]
    rw [h0] at Hg1
    clear h0 hC hM
    go_enter Try.func3, Try.ntmps3
    go_wp2_with fail
    (with_reducible refine Hg1.out.mono ?_)
    rintro e w' ⟨rfl, hw⟩
    rw [hw]
    clear hw
    go_wp2_with fail
    (with_reducible refine Hg2.out.mono ?_)
    rintro e w' ⟨rfl, hw⟩
    rw [hw]
    clear hw
    go_wp2_with (go_at_call 9; refine (known27_walk _).mono ?_; rintro e w' ⟨rfl, hk⟩)
    go_ret
    exact ⟨rfl, hk⟩
  have h0b : ((C.length : Int) == 0) = false := by rw [beq_eq_false_iff_ne]; omega
  have hC20 : C.length ≤ 20 := by omega
  have hM20 : M.length ≤ 20 := by omega
  have HC := hide hC
  have HM := hide hM
  clear hc60 hm60
  go_enter Try.func3, Try.ntmps3
  go_wp2_with fail
  (with_reducible refine Hg1.out.mono ?_)
  rintro e w' ⟨rfl, hw⟩
  rw [hw]
  clear hw
  go_wp2_with fail
  (with_reducible refine Hg2.out.mono ?_)
  rintro e w' ⟨rfl, hw⟩
  rw [hw]
  clear hw Hg1 Hg2
  go_upto_region 3 with fail
  obtain ⟨j, hj, hje⟩ := u64_idx k C.length (by omega)
  obtain ⟨gb, off, cap, xa, xc, e, hx, c0, c1, c2⟩ := HC.out.at hj
  injection e with e1 e2 e3
  subst e1 e3
  clear e2
  have hnis := HC.out.tups _ (List.getElem_mem hj)
  have hmem : C[j] ∈ C := List.getElem_mem hj
  obtain ⟨X, hXd⟩ : ∃ X, C[j] = X := ⟨_, rfl⟩
  rw [hXd] at hx c0 c1 c2 hnis hmem
  obtain ⟨ru, tu, su, ax⟩ := X
  simp only at hx c0 c1 c2 hnis
  subst hx
  obtain ⟨w0, hw0⟩ : ∃ w0, w.alloc (Obj.cells #[.int .i64 ru, .slice xa tu.length xc, .int .i64 su] 27) = w0 := ⟨_, rfl⟩
  have hb0 : Below w.heap.size w w0 := by rw [← hw0]; exact ((Only.refl [] w).alloc _).below
  have hbox := heap_alloc0 w (Obj.cells #[.int .i64 ru, .slice xa tu.length xc, .int .i64 su] 27)
  have hz0 : w0.heap.size = w.heap.size + 1 := by rw [← hw0]; simp
  rw [hw0] at hbox
  obtain ⟨b0, b1, b2, _⟩ := cells3a hbox
  have hjc : (j : Int) < (C.length : Int) := by omega
  have hj0 : (0 : Int) ≤ (j : Int) := by omega
  have Hw0 := hide hw0
  have HC0 := hide (HC.out.below hb0)
  have HM0 := hide (HM.out.below hb0)
  have Hb0 := hide hb0
  have Hn0 := hide (hnis.below hb0)
  have hcells : ∀ V, Below w0.heap.size w0 V → (NIs V (.slice xa tu.length xc) tu ∧ V.cell? ⟨w.heap.size, 0, none⟩ = some (.int .i64 ru) ∧ V.cell? ⟨w.heap.size, 1, none⟩ = some (.slice xa tu.length xc) ∧ V.cell? ⟨w.heap.size, 2, none⟩ = some (.int .i64 su)) := fun V hV => by
    have hz : w.heap.size < w0.heap.size := by omega
    exact ⟨Hn0.out.below hV, (hV.cell (p := ⟨w.heap.size, 0, none⟩) hz).trans b0, (hV.cell (p := ⟨w.heap.size, 1, none⟩) hz).trans b1, (hV.cell (p := ⟨w.heap.size, 2, none⟩) hz).trans b2⟩
  have Hcells := hide hcells
  have Hmem := hide hmem
  have Hnew := hide (new_ag s w0)
  have HzW0 := hide hz0
  clear hw0 hb0 hbox hcells hnis hXd hmem HC HM b0 b1 b2 hz0
  go_upto_region 4 with fail
  rw [Hw0.out]
  clear hje hjc hj0 c0 c1 c2 hj
  go_wp2_with fail
  (with_reducible refine Hnew.out.mono ?_)
  rintro e w1 ⟨rfl, hA1, hb1⟩
  have HP : Hid (∀ V, AgOnly w0.heap.size (.slice none 0 0) w1 V → Below w0.heap.size w0 V) := fun V hV => AgOnly.below hb1 hV (Nat.le_refl _) (by simp [Value.ownBlock]) hb1.size
  obtain ⟨X, hX⟩ : ∃ X : Ac, (⟨ru, tu, su, .slice xa tu.length xc⟩ : Ac) = X := ⟨_, rfl⟩
  have hXv : X.val = .agg #[.int .i64 ru, .slice xa tu.length xc, .int .i64 su] := by rw [← hX]; rfl
  rw [hX] at Hmem
  have HX : Hid (∀ V, AgOnly w0.heap.size (.slice none 0 0) w1 V → NIs V X.x X.tup ∧ V.cell? ⟨w.heap.size, 0, none⟩ = some (.int .i64 ru) ∧ V.cell? ⟨w.heap.size, 1, none⟩ = some (.slice xa tu.length xc) ∧ V.cell? ⟨w.heap.size, 2, none⟩ = some (.int .i64 su)) := fun V hV => by
    have := Hcells.out V (HP.out V hV)
    exact ⟨by rw [← hX]; exact this.1, this.2⟩
  have hch := change_any w0.heap.size w0.heap.size s (.slice none 0 0) [] (.slice none 0 0) (.slice (some ⟨gb, off, none⟩) C.length vcc) [] C w1 hA1 hb1.size (fun V _ => acts_none V) (fun V hV => HC0.out.below (HP.out V hV)) (by simp; omega)
  have Hch := hide hch
  have HXd := hide hX
  have HXv := hide hXv
  have HB1 := hide hb1
  clear hA1 hb1 hch Hnew hX hXv Hcells
  -- come
  go_wp2_with fail
  (with_reducible refine Hch.out.mono ?_)
  rintro e w2 ⟨rfl, v2, l2, hA2, hl2, hO2, hS2⟩
  have HU2 := hide (hl2.uniq List.Pairwise.nil)
  have HF2 := hide (hl2.fresh (by simp))
  have HH2 := hide ((has_laidAll hl2).2 X Hmem.out)
  have HL2 : Hid (l2.length ≤ 20) := hide (by have := hl2.length; simp at this; omega)
  have Hall := hide (all_any w0.heap.size w0.heap.size s v2 l2 w2 hA2)
  have HA2 := hide hA2
  have HO2 := hide hO2
  have HS2 := hide hS2
  clear hA2 hl2 hO2 hS2 Hch
  -- n
  go_wp2_with fail
  (with_reducible refine Hall.out.mono ?_)
  rintro e w3 ⟨v3, r3, rfl, hr3, hc3, hb3⟩
  have hl3 : r3.length = l2.length := by
    have := congrArg List.length hc3
    rw [sortC_length] at this
    simpa using this
  obtain ⟨a3, k3, rfl⟩ := hr3.acts.form
  rw [hl3]
  have HA3 := hide (HA2.out.below hb3)
  have HO3 := hide (HO2.out.trans (Only.of_below hb3 _))
  have hhas := has_any w0.heap.size w0.heap.size s v2 l2 X w3 HA3.out (HX.out w3 HO3.out).1
  rw [HH2.out, HXv.out] at hhas
  have Hhas := hide hhas
  clear hr3 hc3 hb3 hl3 hhas Hall HA2
  obtain ⟨d0, d1, d2⟩ := (HX.out w3 HO3.out).2
  go_wp2_with fail
  (with_reducible refine Hhas.out.mono ?_)
  rintro e w4 ⟨rfl, hb4⟩
  have HA4 := hide (HA3.out.below hb4)
  have HO4 := hide (HO3.out.trans (Only.of_below hb4 _))
  have hfire := fire_any w0.heap.size w0.heap.size s v2 l2 X w4 HA4.out (HX.out w4 HO4.out).1
  rw [HH2.out, fired_fresh HF2.out X, HXv.out] at hfire
  have Hfire := hide hfire
  clear hb4 hfire d0 d1 d2 Hhas HA3
  obtain ⟨d0, d1, d2⟩ := (HX.out w4 HO4.out).2
  go_wp2_with fail
  (with_reducible refine Hfire.out.mono ?_)
  rintro e w5 ⟨rfl, hA5, hO5⟩
  obtain ⟨F, hF⟩ : ∃ F, fireAt l2 X = F := ⟨_, rfl⟩
  have hA5' : AgIs w0.heap.size w5 w0.heap.size s v2 F := by rw [← hF]; exact hA5
  have HUF : Hid (Uniq F) := by rw [← hF]; exact uniq_acs (fireAt_acs l2 X) HU2.out
  have HHF : Hid (hasE F X = true) := by rw [← hF]; exact (has_acs (fireAt_acs l2 X) X).trans HH2.out
  have HFF : Hid (firedE F X = true) := by rw [← hF]; exact fired_fire HH2.out
  have HFl : Hid (F.length = l2.length) := hide (by rw [← hF]; have := congrArg List.length (fireAt_acs l2 X); simpa using this)
  have HA5 := hide hA5'
  have HO5 := hide (AgOnly.then HO4.out HS2.out hO5)
  clear hA5 hA5' hO5 hF d0 d1 d2 Hfire HA4
  obtain ⟨i0, hi, hz0', hz1, hz2⟩ := ainfo_parts
  have Hi := hide hi
  have Hz0 := hide hz0'
  have Hz1 := hide hz1
  have Hz2 := hide hz2
  clear hi hz0' hz1 hz2
  -- others
  go_wp2_with fail
  go_loopw [12, 60] (fun vo vi wr => ∃ (q m : Nat) (lk : List Ac) (la : Option Addr) (lc : Nat), q ≤ M.length ∧ vi = .int .i64 q ∧ vo = .slice la m lc ∧ Hid (m ≤ q ∧ lk.length = m ∧ lk = (M.take q).filter (fun y => !X.same y) ∧ wr.ownsRow w5.heap.size 27 3 (.slice la m lc) m (aflat lk) ∧ Below w5.heap.size w5 wr)) (fun _ i _ => M.length - (intOf i).toNat)
  case atStart => exact ⟨0, 0, [], none, 0, Nat.zero_le _, rfl, rfl, Nat.le_refl _, rfl, by simp, World.ownsRow_nil _ _ _ _, Below.refl _ _⟩
  case round =>
    obtain ⟨q, m, lk, la, lc, hq, rfl, rfl, hr⟩ := hrel
    have hOr : AgOnly w0.heap.size (.slice none 0 0) w1 wr := HO5.out.trans (Only.of_below hr.out.2.2.2.2 _)
    by_cases hlq : q < M.length
    · have hMr := HM0.out.below (HP.out wr hOr)
      obtain ⟨mb, moff, mcap, ya, yc, e, hy, c0, c1, c2⟩ := hMr.at hlq
      injection e with e1 e2 e3
      subst e1 e3
      clear e2
      have hyn := hMr.tups _ (List.getElem_mem hlq)
      have htk := List.take_succ_eq_append_getElem hlq
      obtain ⟨Y, hYd⟩ : ∃ Y, M[q] = Y := ⟨_, rfl⟩
      rw [hYd] at hy c0 c1 c2 hyn htk
      obtain ⟨ry, ty, sy, ay⟩ := Y
      simp only at hy c0 c1 c2 hyn
      subst hy
      obtain ⟨W, hW⟩ : ∃ W, wr.alloc (Obj.cells #[.int .i64 ry, .slice ya ty.length yc, .int .i64 sy] 27) = W := ⟨_, rfl⟩
      have hbW : Below wr.heap.size wr W := by rw [← hW]; exact ((Only.refl [] wr).alloc _).below
      have hbx := heap_alloc0 wr (Obj.cells #[.int .i64 ry, .slice ya ty.length yc, .int .i64 sy] 27)
      have hzW : W.heap.size = wr.heap.size + 1 := by rw [← hW]; simp
      rw [hW] at hbx
      have hOW : AgOnly w0.heap.size (.slice none 0 0) w1 W := hOr.trans (Only.of_below hbW _)
      have hrs := rsame_any X ⟨ry, ty, sy, .slice ya ty.length yc⟩ W (HX.out W hOW).1 (hyn.below hbW)
      obtain ⟨p, hp⟩ : ∃ p, X.same ⟨ry, ty, sy, .slice ya ty.length yc⟩ = p := ⟨_, rfl⟩
      rw [show decide (X.rule = (⟨ry, ty, sy, .slice ya ty.length yc⟩ : Ac).rule ∧ X.tup = (⟨ry, ty, sy, .slice ya ty.length yc⟩ : Ac).tup) = p from hp, HXv.out] at hrs
      unfold Ac.val at hrs
      have htk2 : Hid ((M.take (q + 1)).filter (fun y => !X.same y) = lk ++ (if p then [] else [⟨ry, ty, sy, .slice ya ty.length yc⟩])) := by
        rw [htk, List.filter_append, ← hr.out.2.2.1]
        congr 1
        simp only [List.filter_cons, hp, List.filter_nil]
        cases p <;> rfl
      have HOW := hide hOW
      have Hrs := hide hrs
      have HW := hide hW
      have HbW := hide hbW
      have Hbx := hide hbx
      obtain ⟨y0, y1, y2, _⟩ := cells3a hbx
      obtain ⟨d0, d1, d2⟩ := (HX.out W hOW).2
      have hwr : w5.heap.size ≤ wr.heap.size := hr.out.2.2.2.2.size
      have hmq := hr.out.1
      clear hMr hyn htk hYd hW hbW hbx hOW hrs hp hOr
      go_upto_region 13 with fail
      rw [HW.out]
      go_wp2_with fail
      (with_reducible refine Hrs.out.mono ?_)
      rintro e V ⟨rfl, hbV⟩
      have HbV := hide hbV
      have hwV : W.heap.size ≤ V.heap.size := hbV.size
      have y0' := (hbV.cell (p := ⟨wr.heap.size, 0, none⟩) (by simp only; omega)).trans y0
      have y1' := (hbV.cell (p := ⟨wr.heap.size, 1, none⟩) (by simp only; omega)).trans y1
      have y2' := (hbV.cell (p := ⟨wr.heap.size, 2, none⟩) (by simp only; omega)).trans y2
      have HbR := hide (HbW.out.trans (hbV.mono (by omega)))
      clear hbV y0 y1 y2 d0 d1 d2 c0 c1 c2 Hrs
      cases p
      · have hown := (owns_below hr.out.2.2.2.1 HbR.out).alloc (Obj.cells #[.int .i64 ry, .slice ya ty.length yc, .int .i64 sy] 27)
        have hnews := World.news_of_block (cs := #[.int .i64 ry, .slice ya ty.length yc, .int .i64 sy]) (t := 27) (fr := (0, 0)) (heap_alloc_new V (Obj.cells #[.int .i64 ry, .slice ya ty.length yc, .int .i64 sy] 27))
        have Hown := hide hown
        have Hnews := hide hnews
        clear hown hnews
        go_wp2_with (at_builtin; refine wpList_append_lies _ rfl (.tmp 68) (.tmp 70) _ rfl w5.heap.size 27 i0 (.agg #[.int .i64 0, .slice none 0 0, .int .i64 0]) 3 40 Try.underlying22 Hi.out Hz0.out Hz1.out Hz2.out rfl (by decide) (.slice la m lc) m (aflat lk) rfl Hown.out ⟨V.heap.size, 0, none⟩ 1 1 [.int .i64 ry, .slice ya ty.length yc, .int .i64 sy] rfl rfl Hnews.out (by simp [Value.oneCell']) (by decide) (by unfold maxLen; omega) (by omega) (by simp; omega) (V.heap.size + 1) (by simp) ?_; intro g' cap' w8 hown5 hgrow hat hlt5; have Hown5 := hide hown5; have Hgrow := hide hgrow; clear hown5 hgrow hat hlt5)
        have hnew : Hid (m + 1 ≤ q + 1 ∧ (lk ++ [(⟨ry, ty, sy, .slice ya ty.length yc⟩ : Ac)]).length = m + 1 ∧ lk ++ [(⟨ry, ty, sy, .slice ya ty.length yc⟩ : Ac)] = (M.take (q + 1)).filter (fun y => !X.same y) ∧ w8.ownsRow w5.heap.size 27 3 (.slice (some ⟨g', 0, none⟩) (m + 1) cap') (m + 1) (aflat (lk ++ [(⟨ry, ty, sy, .slice ya ty.length yc⟩ : Ac)])) ∧ Below w5.heap.size w5 w8) := by
          have h5 := hr.out.2.2.2.2
          have hrow := row_own Hown.out
          have h6 : Below w5.heap.size w5 (V.alloc (Obj.cells #[.int .i64 ry, .slice ya ty.length yc, .int .i64 sy] 27)) := (h5.trans (HbR.out.mono h5.size)).alloc (by omega) _
          refine ⟨by omega, by simp [hr.out.2.1], by rw [htk2.out]; rfl, by rw [aflat_append]; exact Hown5.out, h6.grown Hgrow.out (by simp; omega) (fun k hk => hrow k hk)⟩
        clear y0' y1' y2'
        go_wp2
        go_roundw
        case rel => exact ⟨q + 1, m + 1, _, _, cap', by omega, by go_num, rfl, hnew.out⟩
        case measure => simp [intOf]; omega
      · have hnew : Hid (m ≤ q + 1 ∧ lk.length = m ∧ lk = (M.take (q + 1)).filter (fun y => !X.same y) ∧ V.ownsRow w5.heap.size 27 3 (.slice la m lc) m (aflat lk) ∧ Below w5.heap.size w5 V) := by
          have h5 := hr.out.2.2.2.2
          exact ⟨by omega, hr.out.2.1, by rw [htk2.out]; simp, owns_below hr.out.2.2.2.1 HbR.out, h5.trans (HbR.out.mono h5.size)⟩
        clear y0' y1' y2'
        go_wp2
        go_roundw
        case rel => exact ⟨q + 1, m, lk, la, lc, by omega, by go_num, rfl, hnew.out⟩
        case measure => simp [intOf]; omega
    · obtain rfl : q = M.length := by omega
      obtain ⟨w6, rfl⟩ : ∃ w6 : World, w6 = wr := ⟨_, rfl⟩
      have hOm := hr.out.2.1
      obtain ⟨O, hOd⟩ : ∃ O, lk = O := ⟨_, rfl⟩
      have hOf : O = M.filter (fun y => !X.same y) := by rw [← hOd, hr.out.2.2.1, List.take_length]
      have hOl : O.length ≤ 20 := by rw [hOf]; exact Nat.le_trans (List.length_filter_le _ _) hM20
      have hown : w6.ownsRow w5.heap.size 27 3 (.slice la m lc) m (aflat O) := by rw [← hOd]; exact hr.out.2.2.2.1
      have hb6 := hr.out.2.2.2.2
      have hA6 := HA5.out.below hb6
      have hO6 : AgOnly w0.heap.size (.slice none 0 0) w1 w6 := HO5.out.trans (Only.of_below hb6 _)
      have hOn : ∀ y ∈ O, y.same X = false := fun y hy => by
        rw [hOf] at hy
        have := (List.mem_filter.1 hy).2
        rw [same_comm]
        simpa using this
      have hoacts : ∀ V, AgOnly w0.heap.size v2 w6 V → ActsIs V (.slice la m lc) O := fun V hV => by
        have hV1 : AgOnly w0.heap.size (.slice none 0 0) w1 V := hO6.then HS2.out hV
        have hrow := owns_only hown hV (fun k hk hm => by
          simp only [List.mem_cons, Option.mem_toList] at hm
          rcases hm with rfl | hm
          · exact owns_not hown hA6.blk (by decide) hk
          · exact owns_ne (by decide : 27 ≠ 61) hown hA6.ens.own hk hm)
        rw [hOd] at hOm
        rw [← hOm] at hrow ⊢
        exact ActsIs.of_owns (by omega) hrow (fun a ha => by
          rw [hOf] at ha
          exact (HM0.out.below (HP.out V hV1)).tups a (List.mem_filter.1 ha).1)
      have hFn := HA5.out.ens.len
      have hFn2 := HFl.out
      have hch7 := change_any w0.heap.size w0.heap.size s v2 F (.slice la m lc) (.slice la m lc) O O w6 hA6 (by have := HP.out w6 hO6; exact this.size) hoacts hoacts (by have := HL2.out; omega)
      have Hch7 := hide hch7
      have HO6 := hide hO6
      have HOn := hide hOn
      have HO20 := hide hOl
      clear hr hOm hOd hOf hown hb6 hA6 hO6 hOn hoacts hch7 hFn hFn2 hOl
      go_wp2_with fail
      (with_reducible refine Hch7.out.mono ?_)
      rintro e w7 ⟨rfl, v7, l7, hA7, hl7, hO7, hS7⟩
      have HU7 := hide (hl7.uniq (dropAll_uniq O HUF.out))
      have HH7 : Hid (hasE l7 X = true) := hide ((has_laidAll hl7).1 X (by rw [(fired_dropAll O F HOn.out).2]; exact HHF.out))
      have HF7 : Hid (firedE l7 X = true) := hide (by rw [fired_laidAll hl7 HOn.out, (fired_dropAll O F HOn.out).1]; exact HFF.out)
      have HL7 : Hid (l2.length ≤ l7.length) := hide (by rw [← HFl.out]; exact turned_len HUF.out hl7)
      have HN7 : Hid (l7.length ≤ 60) := hide (by have := hl7.length; have := dropped_all_length O F; have := HFl.out; have := HL2.out; have := HO20.out; omega)
      have HA7 := hide hA7
      have HO7 := hide (AgOnly.then HO6.out HS2.out hO7)
      have HS7 := hide (HS2.out.then hS7 HO6.out.size)
      clear hA7 hl7 hO7 hS7 Hch7
      obtain ⟨d0, d1, d2⟩ := (HX.out w7 HO7.out).2
      obtain ⟨u7, hu7⟩ : ∃ u7, w7.alloc (Obj.cells #[.int .i64 ru, .slice xa tu.length xc, .int .i64 su] 27) = u7 := ⟨_, rfl⟩
      have hbu7 : Below w7.heap.size w7 u7 := by rw [← hu7]; exact ((Only.refl [] w7).alloc _).below
      have hx7 := heap_alloc0 w7 (Obj.cells #[.int .i64 ru, .slice xa tu.length xc, .int .i64 su] 27)
      rw [hu7] at hx7
      have hOu7 : AgOnly w0.heap.size (.slice none 0 0) w1 u7 := HO7.out.trans (Only.of_below hbu7 _)
      have hch8 := change_any w0.heap.size w0.heap.size s v7 l7 (.slice none 0 0) (.slice (some ⟨w7.heap.size, 0, none⟩) 1 1) [] [X] u7 (HA7.out.below hbu7) (by have := HP.out u7 hOu7; exact this.size) (fun V _ => acts_none V) (one_acts HXd.out hx7 (row_notin HA7.out) (fun V hV => (HX.out V (hOu7.then HS7.out hV)).1)) (by have := HN7.out; simp; omega)
      have Hch8 := hide hch8
      have Hu7 := hide hu7
      have HOu7 := hide hOu7
      clear hu7 hbu7 hx7 hOu7 hch8
      go_wp2_with fail
      rw [Hu7.out]
      (with_reducible refine Hch8.out.mono ?_)
      rintro e w8 ⟨rfl, v8, l8, hA8, hl8, hO8, hS8⟩
      obtain rfl : l8 = l7 := by
        rcases laidAll_one hl8 with ⟨q, _⟩ | ⟨q, _⟩
        · exact q
        · have := HH7.out; unfold hasE at this; rw [show ([] : List Ac).foldl dropped l7 = l7 from rfl, this] at q; cases q
      have HA8 := hide hA8
      have HO8 := hide (AgOnly.then HOu7.out HS7.out hO8)
      have HS8 := hide (HS7.out.then hS8 HOu7.out.size)
      have hfd8 := fired_any w0.heap.size w0.heap.size s v8 l8 X w8 HA8.out (HX.out w8 HO8.out).1
      rw [HF7.out, HXv.out] at hfd8
      have Hfd8 := hide hfd8
      clear hA8 hl8 hO8 hS8 hfd8 Hch8 d0 d1 d2
      obtain ⟨d0, d1, d2⟩ := (HX.out w8 HO8.out).2
      go_wp2_with fail
      (with_reducible refine Hfd8.out.mono ?_)
      rintro e w9 ⟨rfl, hb9⟩
      have HA9 := hide (HA8.out.below hb9)
      have HO9 := hide (HO8.out.trans (Only.of_below hb9 _))
      have hfr9 := fire_any w0.heap.size w0.heap.size s v8 l8 X w9 HA9.out (HX.out w9 HO9.out).1
      rw [HH7.out, HF7.out, HXv.out] at hfr9
      have Hfr9 := hide hfr9
      clear hb9 hfr9 d0 d1 d2 Hfd8 HA8
      obtain ⟨d0, d1, d2⟩ := (HX.out w9 HO9.out).2
      go_wp2_with fail
      (with_reducible refine Hfr9.out.mono ?_)
      rintro e w10 ⟨rfl, hA10, hO10⟩
      have HA10 : Hid (AgIs w0.heap.size w10 w0.heap.size s v8 l8) := hide (by simpa using hA10)
      have HO10 := hide (AgOnly.then HO9.out HS8.out hO10)
      clear hA10 hO10 d0 d1 d2 Hfr9 HA9
      obtain ⟨d0, d1, d2⟩ := (HX.out w10 HO10.out).2
      obtain ⟨u10, hu10⟩ : ∃ u10, w10.alloc (Obj.cells #[.int .i64 ru, .slice xa tu.length xc, .int .i64 su] 27) = u10 := ⟨_, rfl⟩
      have hbu10 : Below w10.heap.size w10 u10 := by rw [← hu10]; exact ((Only.refl [] w10).alloc _).below
      have hx10 := heap_alloc0 w10 (Obj.cells #[.int .i64 ru, .slice xa tu.length xc, .int .i64 su] 27)
      rw [hu10] at hx10
      have hOu10 : AgOnly w0.heap.size (.slice none 0 0) w1 u10 := HO10.out.trans (Only.of_below hbu10 _)
      have hch11 := change_any w0.heap.size w0.heap.size s v8 l8 (.slice (some ⟨w10.heap.size, 0, none⟩) 1 1) (.slice none 0 0) [X] [] u10 (HA10.out.below hbu10) (by have := HP.out u10 hOu10; exact this.size) (one_acts HXd.out hx10 (row_notin HA10.out) (fun V hV => (HX.out V (hOu10.then HS8.out hV)).1)) (fun V _ => acts_none V) (by have := HN7.out; simp; omega)
      have Hch11 := hide hch11
      have Hu10 := hide hu10
      have HOu10 := hide hOu10
      clear hu10 hbu10 hx10 hOu10 hch11
      go_wp2_with fail
      rw [Hu10.out]
      (with_reducible refine Hch11.out.mono ?_)
      rintro e w11 ⟨rfl, v11, l11, hA11, hl11, hO11, hS11⟩
      obtain rfl : l11 = dropped l8 X := laidAll_nil hl11
      have HH11 := hide (has_gone HU7.out X)
      have HF11 := hide (fired_has (has_gone HU7.out X))
      have HU11 := hide (dropped_uniq HU7.out X)
      have HL11 := hide (dropped_len HH7.out)
      obtain ⟨l11, hl11'⟩ : ∃ l11, dropped l8 X = l11 := ⟨_, rfl⟩
      rw [hl11'] at HH11 HF11 HU11 HL11 hA11
      have HA11 := hide hA11
      have HO11 := hide (AgOnly.then HOu10.out HS8.out hO11)
      have HS11 := hide (HS8.out.then hS11 HOu10.out.size)
      have hh11 := has_any w0.heap.size w0.heap.size s v11 l11 X w11 HA11.out (HX.out w11 HO11.out).1
      rw [HH11.out, HXv.out] at hh11
      have Hh11 := hide hh11
      clear hA11 hl11 hl11' hO11 hS11 hh11 Hch11 d0 d1 d2
      obtain ⟨d0, d1, d2⟩ := (HX.out w11 HO11.out).2
      go_wp2_with fail
      (with_reducible refine Hh11.out.mono ?_)
      rintro e w12 ⟨rfl, hb12⟩
      have HA12 := hide (HA11.out.below hb12)
      have HO12 := hide (HO11.out.trans (Only.of_below hb12 _))
      have hfd12 := fired_any w0.heap.size w0.heap.size s v11 l11 X w12 HA12.out (HX.out w12 HO12.out).1
      rw [HF11.out, HXv.out] at hfd12
      have Hfd12 := hide hfd12
      clear hb12 hfd12 d0 d1 d2 Hh11
      obtain ⟨d0, d1, d2⟩ := (HX.out w12 HO12.out).2
      go_wp2_with fail
      (with_reducible refine Hfd12.out.mono ?_)
      rintro e w13 ⟨rfl, hb13⟩
      have HA13 := hide (HA12.out.below hb13)
      have HO13 := hide (HO12.out.trans (Only.of_below hb13 _))
      have hfr13 := fire_any w0.heap.size w0.heap.size s v11 l11 X w13 HA13.out (HX.out w13 HO13.out).1
      rw [HH11.out, HF11.out, HXv.out] at hfr13
      have Hfr13 := hide hfr13
      clear hb13 hfr13 d0 d1 d2 Hfd12
      obtain ⟨d0, d1, d2⟩ := (HX.out w13 HO13.out).2
      go_wp2_with fail
      (with_reducible refine Hfr13.out.mono ?_)
      rintro e w14 ⟨rfl, hA14, hO14⟩
      have HA14 : Hid (AgIs w0.heap.size w14 w0.heap.size s v11 l11) := hide (by simpa using hA14)
      have HO14 := hide (AgOnly.then HO13.out HS11.out hO14)
      have Hall14 := hide (all_any w0.heap.size w0.heap.size s v11 l11 w14 HA14.out)
      clear hA14 hO14 d0 d1 d2 Hfr13
      go_wp2_with fail
      (with_reducible refine Hall14.out.mono ?_)
      rintro e w15 ⟨v15, r15, rfl, hr15, hc15, hb15⟩
      have hl15 : r15.length = l11.length := by
        have := congrArg List.length hc15
        rw [sortC_length] at this
        simpa using this
      obtain ⟨a15, k15, rfl⟩ := hr15.acts.form
      rw [hl15]
      have HA15 := hide (HA14.out.below hb15)
      have HO15 := hide (HO14.out.trans (Only.of_below hb15 _))
      clear hr15 hc15 hb15 hl15 Hall14
      obtain ⟨d0, d1, d2⟩ := (HX.out w15 HO15.out).2
      have hnb : decide ((l11.length : Int) < (l2.length : Int) - 1) = false := decide_eq_false (by have := HL11.out; have := HL7.out; omega)
      have hl2b : (l2.length : Int) ≤ 60 := by have := HL7.out; have := HN7.out; omega
      obtain ⟨u15, hu15⟩ : ∃ u15, w15.alloc (Obj.cells #[.int .i64 ru, .slice xa tu.length xc, .int .i64 su] 27) = u15 := ⟨_, rfl⟩
      have hbu15 : Below w15.heap.size w15 u15 := by rw [← hu15]; exact ((Only.refl [] w15).alloc _).below
      have hx15 := heap_alloc0 w15 (Obj.cells #[.int .i64 ru, .slice xa tu.length xc, .int .i64 su] 27)
      rw [hu15] at hx15
      have hOu15 : AgOnly w0.heap.size (.slice none 0 0) w1 u15 := HO15.out.trans (Only.of_below hbu15 _)
      have hch16 := change_any w0.heap.size w0.heap.size s v11 l11 (.slice none 0 0) (.slice (some ⟨w15.heap.size, 0, none⟩) 1 1) [] [X] u15 (HA15.out.below hbu15) (by have := HP.out u15 hOu15; exact this.size) (fun V _ => acts_none V) (one_acts HXd.out hx15 (row_notin HA15.out) (fun V hV => (HX.out V (hOu15.then HS11.out hV)).1)) (by have := HL11.out; have := HN7.out; simp; omega)
      have Hch16 := hide hch16
      have Hu15 := hide hu15
      have HOu15 := hide hOu15
      clear hu15 hbu15 hx15 hOu15 hch16
      go_wp2_with fail
      rw [Hu15.out]
      (with_reducible refine Hch16.out.mono ?_)
      rintro e w16 ⟨rfl, v16, l16, hA16, hl16, hO16, hS16⟩
      have hl16' := laidAll_one hl16
      have HU16 := hide (hl16'.uniq HU11.out)
      have HH16 := hide (laid_there1 hl16')
      have HF16 := hide (laid_fresh1 hl16' HH11.out)
      have HA16 := hide hA16
      have HO16 := hide (AgOnly.then HOu15.out HS11.out hO16)
      have Hli := hide (list_any w0.heap.size w0.heap.size s v16 l16 w16 HA16.out)
      clear hA16 hl16 hl16' hO16 hS16 Hch16 d0 d1 d2 hnb
      go_wp2_with fail
      (with_reducible refine Hli.out.mono ?_)
      rintro e w17 ⟨vR, R, rfl, hR, hcR, hb17⟩
      obtain ⟨ra, rc, rfl⟩ := hR.acts.form
      have hRl : R.length ≤ 1000000 := hR.acts.len
      have HR := hide hR.acts
      have HcR : Hid (R.countP (fun a => X.same a) = 1) := hide (by
        have h1 : R.map Ac.co = sortC s (open' l16) := hcR
        have h2 := countP_sort s (open' l16) (fun c => sameC X.co c)
        rw [← h1, open_one HU16.out HH16.out HF16.out, List.countP_map] at h2
        exact h2)
      have HA17 := hide (HA16.out.below hb17)
      have HO17 := hide (HO16.out.trans (Only.of_below hb17 _))
      clear hR hcR hb17 Hli HA16
      go_wp2_with fail
      go_loopw [15, 122] (fun vn vi wr => ∃ i : Nat, i ≤ R.length ∧ vi = .int .i64 i ∧ vn = .int .i64 (((R.take i).countP (fun a => X.same a) : Nat) : Int) ∧ Hid (Below w17.heap.size w17 wr)) (fun _ i _ => R.length - (intOf i).toNat)
      case atStart => exact ⟨0, Nat.zero_le _, rfl, rfl, Below.refl _ _⟩
      case round =>
        obtain ⟨i, hiR, rfl, rfl, hbr⟩ := hrel
        have hOr : AgOnly w0.heap.size (.slice none 0 0) w1 wr := HO17.out.trans (Only.of_below hbr.out _)
        by_cases hlt : i < R.length
        · have hRr := HR.out.below hbr.out
          obtain ⟨mb, moff, mcap, ya, yc, e, hy, c0, c1, c2⟩ := hRr.at hlt
          injection e with e1 e2 e3
          subst e1 e3
          clear e2
          have hyn := hRr.tups _ (List.getElem_mem hlt)
          have htk := List.take_succ_eq_append_getElem hlt
          obtain ⟨Y, hYd⟩ : ∃ Y, R[i] = Y := ⟨_, rfl⟩
          rw [hYd] at hy c0 c1 c2 hyn htk
          obtain ⟨ry, ty, sy, ay⟩ := Y
          simp only at hy c0 c1 c2 hyn
          subst hy
          obtain ⟨W, hW⟩ : ∃ W, wr.alloc (Obj.cells #[.int .i64 ry, .slice ya ty.length yc, .int .i64 sy] 27) = W := ⟨_, rfl⟩
          have hbW : Below wr.heap.size wr W := by rw [← hW]; exact ((Only.refl [] wr).alloc _).below
          have hbx := heap_alloc0 wr (Obj.cells #[.int .i64 ry, .slice ya ty.length yc, .int .i64 sy] 27)
          have hzW : W.heap.size = wr.heap.size + 1 := by rw [← hW]; simp
          rw [hW] at hbx
          have hOW : AgOnly w0.heap.size (.slice none 0 0) w1 W := hOr.trans (Only.of_below hbW _)
          have hrs := rsame_any X ⟨ry, ty, sy, .slice ya ty.length yc⟩ W (HX.out W hOW).1 (hyn.below hbW)
          obtain ⟨p, hp⟩ : ∃ p, X.same ⟨ry, ty, sy, .slice ya ty.length yc⟩ = p := ⟨_, rfl⟩
          rw [show decide (X.rule = (⟨ry, ty, sy, .slice ya ty.length yc⟩ : Ac).rule ∧ X.tup = (⟨ry, ty, sy, .slice ya ty.length yc⟩ : Ac).tup) = p from hp, HXv.out] at hrs
          unfold Ac.val at hrs
          have hct : Hid ((R.take (i + 1)).countP (fun a => X.same a) = (R.take i).countP (fun a => X.same a) + (if p then 1 else 0)) := hide (by
            rw [htk, List.countP_append, List.countP_singleton, hp])
          have hcb : (R.take i).countP (fun a => X.same a) ≤ i := Nat.le_trans List.countP_le_length (by rw [List.length_take]; omega)
          obtain ⟨ct, hctd⟩ : ∃ ct, (R.take i).countP (fun a => X.same a) = ct := ⟨_, rfl⟩
          rw [hctd] at hct hcb ⊢
          have Hrs := hide hrs
          have HW := hide hW
          have HbW := hide hbW
          obtain ⟨y0, y1, y2, _⟩ := cells3a hbx
          obtain ⟨d0, d1, d2⟩ := (HX.out W hOW).2
          clear hRr hyn htk hYd hW hbW hbx hOW hrs hp hOr hctd
          go_upto_region 28 with fail
          rw [HW.out]
          go_wp2_with fail
          (with_reducible refine Hrs.out.mono ?_)
          rintro e V ⟨rfl, hbV⟩
          have HbR := hide (hbr.out.trans ((HbW.out.trans (hbV.mono (by omega))).mono hbr.out.size))
          clear hbV y0 y1 y2 d0 d1 d2 c0 c1 c2 Hrs
          cases p
          · go_wp2
            go_roundw
            case rel => exact ⟨i + 1, by omega, by go_num, congrArg (Value.int .i64) (by rw [hct.out]; simp), HbR.out⟩
            case measure => simp [intOf]; omega
          · go_wp2
            go_roundw
            case rel => exact ⟨i + 1, by omega, by go_num, congrArg (Value.int .i64) (by rw [hct.out]; simp), HbR.out⟩
            case measure => simp [intOf]; omega
        · obtain rfl : i = R.length := by omega
          rw [List.take_length, HcR.out]
          have hA18 := HA17.out.below hbr.out
          have hh18 := has_any w0.heap.size w0.heap.size s v16 l16 X wr hA18 (HX.out wr hOr).1
          rw [HH16.out, HXv.out] at hh18
          have Hh18 := hide hh18
          have HA18 := hide hA18
          have HO18 := hide hOr
          obtain ⟨d0, d1, d2⟩ := (HX.out wr hOr).2
          clear hA18 hh18 hOr
          go_wp2_with fail
          (with_reducible refine Hh18.out.mono ?_)
          rintro e w19 ⟨rfl, hb19⟩
          have HO19 := hide (HO18.out.trans (Only.of_below hb19 _))
          have hfd19 := fired_any w0.heap.size w0.heap.size s v16 l16 X w19 (HA18.out.below hb19) (HX.out w19 HO19.out).1
          rw [HF16.out, HXv.out] at hfd19
          have Hfd19 := hide hfd19
          clear hb19 hfd19 d0 d1 d2 Hh18
          obtain ⟨d0, d1, d2⟩ := (HX.out w19 HO19.out).2
          go_wp2_with fail
          (with_reducible refine Hfd19.out.mono ?_)
          rintro e w20 ⟨rfl, hb20⟩
          have HB20 := hide (Hb0.out.trans ((HP.out w20 (HO19.out.trans (Only.of_below hb20 _))).mono Hb0.out.size))
          clear hb20 d0 d1 d2 Hfd19
          go_wp2_with (go_at_call 9; refine (known27_walk _).mono ?_; rintro e w' ⟨rfl, hk⟩)
          go_ret
          exact ⟨rfl, HB20.out.trans (hk.mono HB20.out.size)⟩
end Go.Proofs.Ytelgajgghgknnaa
