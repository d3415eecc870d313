/- The walk of witanlaw27.AgendaList. -/
import Derived.Test.YtelgajgghgknnaaGone
import Derived.Test.YtelgajgghgknnaaListLaw
namespace Go.Proofs.Ytelgajgghgknnaa
open Go Go.RowKit Go.MapKept Go.Sort

theorem acts_first {w : World} {g n cap : Nat} {c : Ac} {r : List Ac} (h : ActsIs w (.slice (some ⟨g, 0, none⟩) n cap) (c :: r)) : ActsIs w (.slice (some ⟨g, 0, none⟩) 1 cap) [c] := by
  have := h.sub' (k := 0) (by simp) cap
  simpa using this

set_option maxRecDepth 100000 in
set_option maxHeartbeats 8000000 in
theorem list_walk (s : Int) (vc vm : Value) (lc lm : List ActD) (w : World) (hc : ActsD w vc lc) (hm : ActsD w vm lm) :
    Calls Try.prog 5 #[.int .u8 s, vc, vm] w fun e w' => e = .returned (.bool true) ∧ Below w.heap.size w w' := by
  have Hg1 := hide (greatD_any vc lc 20 (by omega) w hc)
  have Hg2 := hide (greatD_any vm lm 20 (by omega) w hm)
  obtain ⟨vca, vcc, rfl⟩ := hc.form
  obtain ⟨vma, vmc, rfl⟩ := hm.form
  cases hgc : greatD lc 20 with
  | true =>
    rw [hgc] at Hg1
    clear hgc
    go_enter Try.func5, Try.ntmps5
    go_wp2_with fail
    refine Hg1.out.mono ?_
    rintro e w' ⟨rfl, hw⟩
    rw [hw]
    clear hw
    go_wp2_with (go_at_call 9; refine (known27_walk _).mono ?_; rintro e w' ⟨rfl, hk⟩)
    go_ret
    exact ⟨rfl, hk⟩
  | false =>
  rw [hgc] at Hg1
  cases hgm : greatD lm 20 with
  | true =>
    rw [hgm] at Hg2
    clear hgc hgm
    go_enter Try.func5, Try.ntmps5
    go_wp2_with fail
    refine Hg1.out.mono ?_
    rintro e w' ⟨rfl, hw⟩
    rw [hw]
    clear hw
    go_wp2_with fail
    refine Hg2.out.mono ?_
    rintro e w' ⟨rfl, hw⟩
    rw [hw]
    clear hw
    go_wp2_with (go_at_call 9; refine (known27_walk _).mono ?_; rintro e w' ⟨rfl, hk⟩)
    go_ret
    exact ⟨rfl, hk⟩
  | false =>
  rw [hgm] at Hg2
  obtain ⟨hc60, hc20⟩ := greatD_false hgc
  obtain ⟨hm60, hm20⟩ := greatD_false hgm
  clear hgc hgm
  have hC := hc.acts (by omega) (fun g hg => Nat.le_trans (hc20 g hg) (by omega))
  have hM := hm.acts (by omega) (fun g hg => Nat.le_trans (hm20 g hg) (by omega))
  obtain ⟨C, hCe⟩ : ∃ C, lc.map ActD.ac = C := ⟨_, rfl⟩
  obtain ⟨M, hMe⟩ : ∃ M, lm.map ActD.ac = M := ⟨_, rfl⟩
  rw [hCe] at hC
  rw [hMe] at hM
  have hlc : lc.length = C.length := by rw [← hCe]; simp
  have hlm : lm.length = M.length := by rw [← hMe]; simp
  rw [hlc] at hC hc60 Hg1 ⊢
  rw [hlm] at hM hm60 Hg2 ⊢
  clear hc hm hc20 hm20 hCe hMe hlc hlm
  have hC20 : C.length ≤ 20 := by omega
  have hM20 : M.length ≤ 20 := by omega
  have HC := hide hC
  have HM := hide hM
  have Hnew := hide (new_ag s w)
  clear hc60 hm60 hC hM
  go_enter Try.func5, Try.ntmps5
  go_wp2_with fail
  refine Hg1.out.mono ?_
  rintro e w' ⟨rfl, hw⟩
  rw [hw]
  clear hw
  go_wp2_with fail
  refine Hg2.out.mono ?_
  rintro e w' ⟨rfl, hw⟩
  rw [hw]
  clear hw Hg1 Hg2
  go_wp2_with fail
  (with_reducible refine Hnew.out.mono ?_)
  rintro e w1 ⟨rfl, hA1, hb1⟩
  have HP : Hid (∀ V, AgOnly w.heap.size (.slice none 0 0) w1 V → Below w.heap.size w V) := fun V hV => AgOnly.below hb1 hV (Nat.le_refl _) (by simp [Value.ownBlock]) hb1.size
  have hch := change_any w.heap.size w.heap.size s (.slice none 0 0) [] (.slice none 0 0) (.slice vca C.length vcc) [] C w1 hA1 hb1.size (fun V _ => acts_none V) (fun V hV => HC.out.below (HP.out V hV)) (by simp; omega)
  have Hch := hide hch
  clear hA1 hb1 hch Hnew
  go_wp2_with fail
  (with_reducible refine Hch.out.mono ?_)
  rintro e w2 ⟨rfl, v2, l2, hA2, hl2, hO2, hS2⟩
  have HU2 := hide (hl2.uniq List.Pairwise.nil)
  have HL2 : Hid (l2.length ≤ 20) := hide (by have := hl2.length; simp at this; omega)
  have HA2 := hide hA2
  have HO2 := hide hO2
  have HS2 := hide hS2
  clear hA2 hl2 hO2 hS2 Hch
  -- fire
  go_wp2_with fail
  go_loopw [33] (fun vi wr => ∃ q : Nat, q ≤ M.length ∧ vi = .int .i64 q ∧ Hid (∃ lk, AgIs w.heap.size wr w.heap.size s v2 lk ∧ lk.map (fun e => e.ac) = l2.map (fun e => e.ac) ∧ AgOnly w.heap.size (.slice none 0 0) w1 wr)) (fun i _ => M.length - (intOf i).toNat)
  case atStart => exact ⟨0, Nat.zero_le _, rfl, l2, HA2.out, rfl, HO2.out⟩
  case round =>
    obtain ⟨q, hq, rfl, hr⟩ := hrel
    obtain ⟨lk, hA, hlk, hO⟩ := hr.out
    by_cases hlq : q < M.length
    · have hMr := HM.out.below (HP.out wr hO)
      obtain ⟨mb, moff, mcap, xa, xc, e, hx, c0, c1, c2⟩ := hMr.at hlq
      injection e with e1 e2 e3
      subst e1 e3
      clear e2
      have hxn := hMr.tups _ (List.getElem_mem hlq)
      obtain ⟨X, hXd⟩ : ∃ X, M[q] = X := ⟨_, rfl⟩
      rw [hXd] at hx c0 c1 c2 hxn
      obtain ⟨ru, tu, su, ax⟩ := X
      simp only at hx c0 c1 c2 hxn
      subst hx
      obtain ⟨W, hW⟩ : ∃ W, wr.alloc (Obj.cells #[.int .i64 ru, .slice xa tu.length xc, .int .i64 su] 27) = W := ⟨_, rfl⟩
      have hbW : Below wr.heap.size wr W := by rw [← hW]; exact ((Only.refl [] wr).alloc _).below
      have hbx := heap_alloc0 wr (Obj.cells #[.int .i64 ru, .slice xa tu.length xc, .int .i64 su] 27)
      have hzW : W.heap.size = wr.heap.size + 1 := by rw [← hW]; simp
      rw [hW] at hbx
      obtain ⟨b0, b1, b2, _⟩ := cells3a hbx
      have hX : ∀ V, Below W.heap.size W V → NIs V (.slice xa tu.length xc) tu ∧ V.cell? ⟨wr.heap.size, 0, none⟩ = some (.int .i64 ru) ∧ V.cell? ⟨wr.heap.size, 1, none⟩ = some (.slice xa tu.length xc) ∧ V.cell? ⟨wr.heap.size, 2, none⟩ = some (.int .i64 su) := fun V hV => by
        have hz : wr.heap.size < W.heap.size := by omega
        exact ⟨(hxn.below hbW).below hV, (hV.cell (p := ⟨wr.heap.size, 0, none⟩) hz).trans b0, (hV.cell (p := ⟨wr.heap.size, 1, none⟩) hz).trans b1, (hV.cell (p := ⟨wr.heap.size, 2, none⟩) hz).trans b2⟩
      have HX := hide hX
      have hh := has_any w.heap.size w.heap.size s v2 lk ⟨ru, tu, su, .slice xa tu.length xc⟩ W (hA.below hbW) (hX W (Below.refl _ _)).1
      have HfdV : Hid (∀ V, Below W.heap.size W V → Calls Try.prog 16 #[.pointer (some ⟨w.heap.size, 0, none⟩), .agg #[.int .i64 ru, .slice xa tu.length xc, .int .i64 su]] V fun r w' => r = .returned (.bool (firedE lk ⟨ru, tu, su, .slice xa tu.length xc⟩)) ∧ Below V.heap.size V w') := fun V hV => by
        have := fired_any w.heap.size w.heap.size s v2 lk ⟨ru, tu, su, .slice xa tu.length xc⟩ V ((hA.below hbW).below hV) (hX V hV).1
        unfold Ac.val at this
        exact this
      have HfrV : Hid (∀ V, Below W.heap.size W V → Calls Try.prog 14 #[.pointer (some ⟨w.heap.size, 0, none⟩), .agg #[.int .i64 ru, .slice xa tu.length xc, .int .i64 su]] V fun r w' => r = .returned (.bool (hasE lk ⟨ru, tu, su, .slice xa tu.length xc⟩ && !firedE lk ⟨ru, tu, su, .slice xa tu.length xc⟩)) ∧ ∃ l', AgIs w.heap.size w' w.heap.size s v2 l' ∧ l'.map (fun e => e.ac) = l2.map (fun e => e.ac) ∧ AgOnly w.heap.size (.slice none 0 0) w1 w') := fun V hV => by
        have := fire_any w.heap.size w.heap.size s v2 lk ⟨ru, tu, su, .slice xa tu.length xc⟩ V ((hA.below hbW).below hV) (hX V hV).1
        unfold Ac.val at this
        refine this.mono fun r w' ⟨h1, h2, h3⟩ => ⟨h1, _, h2, ?_, AgOnly.then ((hO.trans (Only.of_below hbW _)).trans (Only.of_below hV _)) HS2.out h3⟩
        split
        · rw [fireAt_acs]; exact hlk
        · exact hlk
      unfold Ac.val at hh
      obtain ⟨p, hp⟩ : ∃ p, hasE lk ⟨ru, tu, su, .slice xa tu.length xc⟩ = p := ⟨_, rfl⟩
      obtain ⟨f, hf⟩ : ∃ f, firedE lk ⟨ru, tu, su, .slice xa tu.length xc⟩ = f := ⟨_, rfl⟩
      rw [hp] at hh HfrV
      rw [hf] at HfrV HfdV
      have Hh := hide hh
      have HW := hide hW
      clear hMr hxn hXd hW hbW hbx hzW b0 b1 b2 hX hh hp hf hA hlk hO hr
      obtain ⟨d0, d1, d2⟩ := (HX.out W (Below.refl _ _)).2
      go_upto_region 8 with fail
      rw [HW.out]
      go_wp2_with fail
      (with_reducible refine Hh.out.mono ?_)
      rintro e V ⟨rfl, hbV⟩
      have HbV := hide hbV
      clear d0 d1 d2 hbV
      obtain ⟨d0, d1, d2⟩ := (HX.out V HbV.out).2
      cases p
      · go_wp2_with fail
        (with_reducible refine (HfrV.out V HbV.out).mono ?_)
        rintro e V2 ⟨rfl, hl⟩
        have Hl := hide hl
        clear d0 d1 d2 hl c0 c1 c2
        go_wp2
        go_roundw
        case rel => exact ⟨q + 1, by omega, by go_num, Hl.out⟩
        case measure => simp [intOf]; omega
      · go_wp2_with fail
        (with_reducible refine (HfdV.out V HbV.out).mono ?_)
        rintro e V2 ⟨rfl, hb2⟩
        have HbV2 := hide (HbV.out.trans (hb2.mono HbV.out.size))
        clear d0 d1 d2 hb2
        obtain ⟨d0, d1, d2⟩ := (HX.out V2 HbV2.out).2
        cases f
        · go_wp2_with fail
          (with_reducible refine (HfrV.out V2 HbV2.out).mono ?_)
          rintro e V3 ⟨rfl, hl⟩
          have Hl := hide hl
          clear d0 d1 d2 hl c0 c1 c2
          go_wp2
          go_roundw
          case rel => exact ⟨q + 1, by omega, by go_num, Hl.out⟩
          case measure => simp [intOf]; omega
        · go_wp2_with fail
          (with_reducible refine (HfrV.out V2 HbV2.out).mono ?_)
          rintro e V3 ⟨rfl, hl⟩
          have Hl := hide hl
          clear d0 d1 d2 hl c0 c1 c2
          go_wp2
          go_roundw
          case rel => exact ⟨q + 1, by omega, by go_num, Hl.out⟩
          case measure => simp [intOf]; omega
    · obtain ⟨w3, rfl⟩ : ∃ w3 : World, w3 = wr := ⟨_, rfl⟩
      have HU := hide (uniq_acs hlk HU2.out)
      have HLk : Hid (lk.length = l2.length) := hide (by have := congrArg List.length hlk; simpa using this)
      have Hall := hide (all_any w.heap.size w.heap.size s v2 lk w3 hA)
      have HA3 := hide hA
      have HO3 := hide hO
      obtain rfl : q = M.length := by omega
      clear hr hlk hA hO
      go_wp2_with fail
      (with_reducible refine Hall.out.mono ?_)
      rintro e w4 ⟨vR, R, rfl, hR, hcR, hb4⟩
      obtain ⟨ra, rc, rfl⟩ := hR.acts.form
      have hRl : R.length ≤ 20 := by
        have := congrArg List.length hcR
        rw [sortC_length] at this
        simp at this
        have := HL2.out
        have h3 := HLk.out
        omega
      have hcapR : R.length ≤ rc := hR.cap
      have HR := hide hR.acts
      have HcR := hide hcR
      have HA4 := hide (HA3.out.below hb4)
      have HO4 := hide (HO3.out.trans (Only.of_below hb4 _))
      clear hR hcR hb4 Hall HA3
      obtain ⟨i0, hi, hz0', hz1, hz2⟩ := ainfo_parts
      have Hi := hide hi
      have Hz0 := hide hz0'
      have Hz1 := hide hz1
      have Hz2 := hide hz2
      clear hi hz0' hz1 hz2
      go_wp2_with fail
      go_loopw [12, 56] (fun vo vi wr => ∃ (i m : Nat) (rk : List Ac) (la : Option Addr) (lc : Nat), i ≤ R.length ∧ vi = .int .i64 i ∧ vo = .slice la m lc ∧ Hid (m ≤ i ∧ rk.length = m ∧ rk = (R.take i).filter (fun a => !firedE lk a) ∧ wr.ownsRow w4.heap.size 27 3 (.slice la m lc) m (aflat rk) ∧ Below w4.heap.size w4 wr)) (fun _ i _ => R.length - (intOf i).toNat)
      case atStart => exact ⟨0, 0, [], none, 0, Nat.zero_le _, rfl, rfl, Nat.le_refl _, rfl, by simp, World.ownsRow_nil _ _ _ _, Below.refl _ _⟩
      case round =>
        obtain ⟨i, m, rk, la, lc, hiR, rfl, rfl, hr⟩ := hrel
        obtain ⟨wo, rfl⟩ : ∃ wo : World, wo = wr := ⟨_, rfl⟩
        by_cases hlt : i < R.length
        · have hRr := HR.out.below hr.out.2.2.2.2
          obtain ⟨gb, off, cap, xa, xc, e, hx, c0, c1, c2⟩ := hRr.at hlt
          injection e with e1 e2 e3
          subst e1 e3
          clear e2
          have hxn := hRr.tups _ (List.getElem_mem hlt)
          have htk := List.take_succ_eq_append_getElem hlt
          have hhas1 := all_has HcR.out _ (List.getElem_mem hlt)
          have hsrt : ∀ q (h : q < i), decide (cmpA s R[i] (R[q]'(by omega)) < 0) = false := fun q h => all_sorted HcR.out h hlt
          have hunq : ∀ q (h : q < i), R[i].same (R[q]'(by omega)) = false := fun q h => by rw [same_comm]; exact List.pairwise_iff_getElem.1 (all_uniq HU.out HcR.out) q i (by omega) hlt h
          obtain ⟨X, hXd⟩ : ∃ X, R[i] = X := ⟨_, rfl⟩
          rw [hXd] at hx c0 c1 c2 hxn htk hhas1
          simp only [hXd] at hsrt hunq
          obtain ⟨ru, tu, su, ax⟩ := X
          simp only at hx c0 c1 c2 hxn
          subst hx
          obtain ⟨W, hW⟩ : ∃ W, wo.alloc (Obj.cells #[.int .i64 ru, .slice xa tu.length xc, .int .i64 su] 27) = W := ⟨_, rfl⟩
          have hbW : Below wo.heap.size wo W := by rw [← hW]; exact ((Only.refl [] wo).alloc _).below
          have hbx := heap_alloc0 wo (Obj.cells #[.int .i64 ru, .slice xa tu.length xc, .int .i64 su] 27)
          have hzW : W.heap.size = wo.heap.size + 1 := by rw [← hW]; simp
          rw [hW] at hbx
          obtain ⟨b0, b1, b2, _⟩ := cells3a hbx
          have hX : ∀ V, Below W.heap.size W V → NIs V (.slice xa tu.length xc) tu ∧ V.cell? ⟨wo.heap.size, 0, none⟩ = some (.int .i64 ru) ∧ V.cell? ⟨wo.heap.size, 1, none⟩ = some (.slice xa tu.length xc) ∧ V.cell? ⟨wo.heap.size, 2, none⟩ = some (.int .i64 su) := fun V hV => by
            have hz : wo.heap.size < W.heap.size := by omega
            exact ⟨(hxn.below hbW).below hV, (hV.cell (p := ⟨wo.heap.size, 0, none⟩) hz).trans b0, (hV.cell (p := ⟨wo.heap.size, 1, none⟩) hz).trans b1, (hV.cell (p := ⟨wo.heap.size, 2, none⟩) hz).trans b2⟩
          have HX := hide hX
          have HAW := hide ((HA4.out.below hr.out.2.2.2.2).below hbW)
          have HRW := hide (hRr.below hbW)
          have hh := has_any w.heap.size w.heap.size s v2 lk ⟨ru, tu, su, .slice xa tu.length xc⟩ W HAW.out (hX W (Below.refl _ _)).1
          rw [hhas1] at hh
          unfold Ac.val at hh
          have Hh := hide hh
          have HW := hide hW
          have HbW := hide hbW
          have Hsrt := hide hsrt
          have Hunq := hide hunq
          have Htk := hide htk
          have HzW := hide hzW
          clear hRr hxn hXd hW hbW hbx b0 b1 b2 hX hh hsrt hunq htk hhas1 hzW
          obtain ⟨d0, d1, d2⟩ := (HX.out W (Below.refl _ _)).2
          have i1 : (i : Int) ≤ (rc : Int) := by omega
          have i2 : (0 : Int) ≤ (i : Int) := by omega
          go_upto_region 17 with fail
          rw [HW.out]
          go_wp2_with fail
          (with_reducible refine Hh.out.mono ?_)
          rintro e V ⟨rfl, hbV⟩
          have HbV := hide hbV
          clear d0 d1 d2 hbV Hh
          go_wp2_with fail
          go_loopw [69] (fun vq wr2 => ∃ q : Nat, q ≤ i ∧ vq = .int .i64 q ∧ Hid (Below W.heap.size W wr2)) (fun vq _ => i - (intOf vq).toNat)
          case atStart => exact ⟨0, Nat.zero_le _, rfl, HbV.out⟩
          case round =>
            obtain ⟨q, hqi, rfl, hbq⟩ := hrel
            by_cases hlq : q < i
            · have hqR : q < R.length := by omega
              have hRq := HRW.out.below hbq.out
              obtain ⟨gb2, off2, cap2, ya, yc, e, hy, k0, k1, k2⟩ := hRq.at hqR
              injection e with e1 e2 e3
              injection e1 with e1
              injection e1 with e1 e4 e5
              subst e1 e4
              clear e2 e3 e5
              have hyn := hRq.tups _ (List.getElem_mem hqR)
              have hs1 := Hsrt.out q hlq
              have hs2 := Hunq.out q hlq
              obtain ⟨Y, hYd⟩ : ∃ Y, R[q] = Y := ⟨_, rfl⟩
              rw [hYd] at hy k0 k1 k2 hyn hs1 hs2
              obtain ⟨ry, ty, sy, ay⟩ := Y
              simp only at hy k0 k1 k2 hyn
              subst hy
              obtain ⟨Wy, hWy⟩ : ∃ Wy, wr.alloc (Obj.cells #[.int .i64 ry, .slice ya ty.length yc, .int .i64 sy] 27) = Wy := ⟨_, rfl⟩
              have hbWy : Below wr.heap.size wr Wy := by rw [← hWy]; exact ((Only.refl [] wr).alloc _).below
              have hby := heap_alloc0 wr (Obj.cells #[.int .i64 ry, .slice ya ty.length yc, .int .i64 sy] 27)
              have hzWy : Wy.heap.size = wr.heap.size + 1 := by rw [← hWy]; simp
              rw [hWy] at hby
              obtain ⟨b0, b1, b2, _⟩ := cells3a hby
              have hbWW : Below W.heap.size W Wy := hbq.out.trans (hbWy.mono hbq.out.size)
              have hyc : ∀ V, Below Wy.heap.size Wy V → V.cell? ⟨wr.heap.size, 0, none⟩ = some (.int .i64 ry) ∧ V.cell? ⟨wr.heap.size, 1, none⟩ = some (.slice ya ty.length yc) ∧ V.cell? ⟨wr.heap.size, 2, none⟩ = some (.int .i64 sy) := fun V hV => by
                have hz : wr.heap.size < Wy.heap.size := by omega
                exact ⟨(hV.cell (p := ⟨wr.heap.size, 0, none⟩) hz).trans b0, (hV.cell (p := ⟨wr.heap.size, 1, none⟩) hz).trans b1, (hV.cell (p := ⟨wr.heap.size, 2, none⟩) hz).trans b2⟩
              have hsm : Calls Try.prog 15 #[.agg #[.int .i64 ru, .slice xa tu.length xc, .int .i64 su], .agg #[.int .i64 ry, .slice ya ty.length yc, .int .i64 sy]] Wy fun r w' => r = .returned (.bool false) ∧ Below Wy.heap.size Wy w' := by
                have := rsame_any ⟨ru, tu, su, .slice xa tu.length xc⟩ ⟨ry, ty, sy, .slice ya ty.length yc⟩ Wy (HX.out Wy hbWW).1 (hyn.below hbWy)
                unfold Ac.val at this
                rw [show decide (_ ∧ _) = false from hs2] at this
                exact this
              have hah : ∀ V, Below Wy.heap.size Wy V → Calls Try.prog 20 #[.int .u8 s, .agg #[.int .i64 ru, .slice xa tu.length xc, .int .i64 su], .agg #[.int .i64 ry, .slice ya ty.length yc, .int .i64 sy]] V fun r w' => r = .returned (.bool false) ∧ Below V.heap.size V w' := fun V hV => by
                have := rahead_any s ⟨ru, tu, su, .slice xa tu.length xc⟩ ⟨ry, ty, sy, .slice ya ty.length yc⟩ V (HX.out V (hbWW.trans (hV.mono hbWW.size))).1 ((hyn.below hbWy).below hV)
                unfold Ac.val at this
                rw [hs1] at this
                exact this
              have Hsm := hide hsm
              have Hah := hide hah
              have HWy := hide hWy
              have HbWW := hide hbWW
              have Hyc := hide hyc
              clear hRq hyn hs1 hs2 hYd hWy hbWy hby hzWy b0 b1 b2 hbWW hyc hsm hah
              obtain ⟨d0, d1, d2⟩ := (HX.out Wy HbWW.out).2
              obtain ⟨y0, y1, y2⟩ := Hyc.out Wy (Below.refl _ _)
              go_upto_region 22 with fail
              rw [HWy.out]
              go_wp2_with fail
              (with_reducible refine Hsm.out.mono ?_)
              rintro e V2 ⟨rfl, hb2⟩
              have Hb2 := hide hb2
              have HbW2 := hide (HbWW.out.trans (hb2.mono HbWW.out.size))
              clear d0 d1 d2 y0 y1 y2 hb2 Hsm
              obtain ⟨d0, d1, d2⟩ := (HX.out V2 HbW2.out).2
              obtain ⟨y0, y1, y2⟩ := Hyc.out V2 Hb2.out
              go_wp2_with fail
              (with_reducible refine (Hah.out V2 Hb2.out).mono ?_)
              rintro e V3 ⟨rfl, hb3⟩
              have HbW3 := hide (HbW2.out.trans (hb3.mono HbW2.out.size))
              clear d0 d1 d2 y0 y1 y2 hb3 Hah k0 k1 k2
              go_wp2
              go_roundw
              case rel => exact ⟨q + 1, by omega, by go_num, HbW3.out⟩
              case measure => simp [intOf]; omega
            · obtain rfl : i = q := by omega
              have hfd := fired_any w.heap.size w.heap.size s v2 lk ⟨ru, tu, su, .slice xa tu.length xc⟩ wr (HAW.out.below hbq.out) (HX.out wr hbq.out).1
              unfold Ac.val at hfd
              obtain ⟨p, hp⟩ : ∃ p, firedE lk ⟨ru, tu, su, .slice xa tu.length xc⟩ = p := ⟨_, rfl⟩
              rw [hp] at hfd
              have htk2 : Hid ((R.take (i + 1)).filter (fun a => !firedE lk a) = rk ++ (if p then [] else [⟨ru, tu, su, .slice xa tu.length xc⟩])) := by
                rw [Htk.out, List.filter_append, ← hr.out.2.2.1]
                congr 1
                simp only [List.filter_cons, hp, List.filter_nil]
                cases p <;> rfl
              have Hfd := hide hfd
              clear hfd hp
              obtain ⟨d0, d1, d2⟩ := (HX.out wr hbq.out).2
              go_wp2_with fail
              (with_reducible refine Hfd.out.mono ?_)
              rintro e V2 ⟨rfl, hb2⟩
              have HbW2 := hide (hbq.out.trans (hb2.mono hbq.out.size))
              have HbR := hide (HbW.out.trans (HbW2.out.mono HbW.out.size))
              clear d0 d1 d2 hb2 Hfd
              have hzW2 := HzW.out
              have hwV : W.heap.size ≤ V2.heap.size := HbW2.out.size
              have hwr : w4.heap.size ≤ wo.heap.size := hr.out.2.2.2.2.size
              have hwV2 : wo.heap.size < V2.heap.size := by omega
              have hmq := hr.out.1
              clear hzW2
              obtain ⟨d0, d1, d2⟩ := (HX.out V2 HbW2.out).2
              cases p
              · have hown := (owns_below hr.out.2.2.2.1 HbR.out).alloc (Obj.cells #[.int .i64 ru, .slice xa tu.length xc, .int .i64 su] 27)
                have hnews := World.news_of_block (cs := #[.int .i64 ru, .slice xa tu.length xc, .int .i64 su]) (t := 27) (fr := (0, 0)) (heap_alloc_new V2 (Obj.cells #[.int .i64 ru, .slice xa tu.length xc, .int .i64 su] 27))
                have Hown := hide hown
                have Hnews := hide hnews
                clear hown hnews
                go_wp2_with (at_builtin; refine wpList_append_lies _ rfl (.tmp 87) (.tmp 89) _ rfl w4.heap.size 27 i0 (.agg #[.int .i64 0, .slice none 0 0, .int .i64 0]) 3 40 Try.underlying22 Hi.out Hz0.out Hz1.out Hz2.out rfl (by decide) (.slice la m lc) m (aflat rk) rfl Hown.out ⟨V2.heap.size, 0, none⟩ 1 1 [.int .i64 ru, .slice xa tu.length xc, .int .i64 su] rfl rfl Hnews.out (by simp [Value.oneCell']) (by decide) (by unfold maxLen; omega) (by omega) (by simp; omega) (V2.heap.size + 1) (by simp) ?_; intro g' cap' w8 hown5 hgrow hat hlt5; have Hown5 := hide hown5; have Hgrow := hide hgrow; clear hown5 hgrow hat hlt5)
                have hnew : Hid (m + 1 ≤ i + 1 ∧ (rk ++ [(⟨ru, tu, su, .slice xa tu.length xc⟩ : Ac)]).length = m + 1 ∧ rk ++ [(⟨ru, tu, su, .slice xa tu.length xc⟩ : Ac)] = (R.take (i + 1)).filter (fun a => !firedE lk a) ∧ w8.ownsRow w4.heap.size 27 3 (.slice (some ⟨g', 0, none⟩) (m + 1) cap') (m + 1) (aflat (rk ++ [(⟨ru, tu, su, .slice xa tu.length xc⟩ : Ac)])) ∧ Below w4.heap.size w4 w8) := by
                  have h5 := hr.out.2.2.2.2
                  have hrow := row_own Hown.out
                  have h6 : Below w4.heap.size w4 (V2.alloc (Obj.cells #[.int .i64 ru, .slice xa tu.length xc, .int .i64 su] 27)) := (h5.trans (HbR.out.mono h5.size)).alloc (by omega) _
                  refine ⟨by omega, by simp [hr.out.2.1], by rw [htk2.out]; rfl, by rw [aflat_append]; exact Hown5.out, h6.grown Hgrow.out (by simp; omega) (fun k hk => hrow k hk)⟩
                clear d0 d1 d2 c0 c1 c2
                go_wp2
                go_roundw
                case rel => exact ⟨i + 1, m + 1, _, _, cap', by omega, by go_num, rfl, hnew.out⟩
                case measure => simp [intOf]; omega
              · have hnew : Hid (m ≤ i + 1 ∧ rk.length = m ∧ rk = (R.take (i + 1)).filter (fun a => !firedE lk a) ∧ V2.ownsRow w4.heap.size 27 3 (.slice la m lc) m (aflat rk) ∧ Below w4.heap.size w4 V2) := by
                  have h5 := hr.out.2.2.2.2
                  exact ⟨by omega, hr.out.2.1, by rw [htk2.out]; simp, owns_below hr.out.2.2.2.1 HbR.out, h5.trans (HbR.out.mono h5.size)⟩
                clear d0 d1 d2 c0 c1 c2
                go_wp2
                go_roundw
                case rel => exact ⟨i + 1, m, rk, la, lc, by omega, by go_num, rfl, hnew.out⟩
                case measure => simp [intOf]; omega
        · obtain rfl : i = R.length := by omega
          have hrk : rk.map Ac.co = sortC s (open' lk) := by
            rw [hr.out.2.2.1, List.take_length]
            exact rest_open HU.out HcR.out
          have hrl : rk.length ≤ 20 := by rw [hr.out.2.2.1, List.take_length]; exact Nat.le_trans (List.length_filter_le _ _) hRl
          have hb := hr.out.2.2.2.2
          have hown := hr.out.2.2.2.1
          have hml := hr.out.2.1
          have hract : ActsIs wo (.slice la m lc) rk := by
            rw [← hml] at hown ⊢
            exact ActsIs.of_owns (by omega) hown (fun a ha => by
              rw [hr.out.2.2.1, List.take_length] at ha
              exact (HR.out.below hb).tups a (List.mem_filter.1 ha).1)
          have hAo := HA4.out.below hb
          have hOo : AgOnly w.heap.size (.slice none 0 0) w1 wo := HO4.out.trans (Only.of_below hb _)
          have hnx := next_any w.heap.size w.heap.size s v2 lk wo hAo
          rw [show ((lk.filter fun e => !e.fired).map fun e => e.ac.co) = open' lk from rfl, ← hrk] at hnx
          have hlist : ∀ V, Below wo.heap.size wo V → Calls Try.prog 17 #[.pointer (some ⟨w.heap.size, 0, none⟩)] V fun r w' => ∃ a n c l', r = .returned (.slice a n c) ∧ ActsIs w' (.slice a n c) l' ∧ l'.map Ac.co = rk.map Ac.co ∧ Below V.heap.size V w' := fun V hV =>
            (list_any w.heap.size w.heap.size s v2 lk V (hAo.below hV)).mono fun r w' ⟨v', l', h1, h2, h3, h4⟩ => by
              obtain ⟨a, c, rfl⟩ := h2.acts.form
              exact ⟨a, _, c, l', h1, h2.acts, by rw [h3, hrk]; rfl, h4⟩
          have Hnx := hide hnx
          have Hlist := hide hlist
          have Hract := hide hract
          have HBo := hide (HP.out wo hOo)
          have Hown := hide hown
          clear hrk hrl hb hract hAo hOo hnx hlist hr hown
          go_wp2_with fail
          (with_reducible refine Hnx.out.mono ?_)
          rintro e V1 ⟨y, q, rfl, hy, hbV1⟩
          cases rk with
          | nil =>
            obtain ⟨rfl, rfl⟩ := hy
            obtain rfl : m = 0 := by simpa using hml.symm
            obtain ⟨W1, hW1⟩ : ∃ W1, V1.alloc (Obj.cells #[.int .i64 0, .slice none 0 0, .int .i64 0] 27) = W1 := ⟨_, rfl⟩
            have ob : Below V1.heap.size V1 W1 := by rw [← hW1]; exact ((Only.refl [] V1).alloc _).below
            have HbT := hide (hbV1.trans (ob.mono hbV1.size))
            have HW1 := hide hW1
            clear hW1 ob hbV1 Hnx hml
            go_upto_region 29 with fail
            rw [HW1.out]
            go_wp2_with fail
            go_quiet (fail)
            obtain ⟨Vt, hVt⟩ : ∃ Vt, W1.drewN nq = Vt := ⟨_, rfl⟩
            have hbt : Below wo.heap.size wo Vt := by rw [← hVt]; exact below_drewN HbT.out nq
            rw [hVt]
            have HbTt := hide hbt
            clear hVt hbt HbT
            have hlt2 := Hlist.out Vt HbTt.out
            have Hlt2 := hide hlt2
            clear hlt2
            go_wp2_with fail
            (with_reducible refine Hlt2.out.mono ?_)
            rintro e V5 ⟨a5, n5, c5, l5, rfl, h5a, h5c, h5b⟩
            have hsa5 := sameAll_any _ _ _ _ V5 h5a (Hract.out.below (HbTt.out.trans (h5b.mono HbTt.out.size)))
            rw [decide_eq_true h5c] at hsa5
            have Hsa5 := hide hsa5
            have HB5 := hide (HBo.out.trans ((HbTt.out.trans (h5b.mono HbTt.out.size)).mono HBo.out.size))
            clear h5a h5c h5b hsa5 Hlt2
            go_wp2_with fail
            (with_reducible refine Hsa5.out.mono ?_)
            rintro e V6 ⟨rfl, hb6⟩
            have HB6 := hide (HB5.out.trans (hb6.mono HB5.out.size))
            clear hb6 Hsa5
            go_wp2_with (go_at_call 9; refine (known27_walk _).mono ?_; rintro e w' ⟨rfl, hk⟩)
            go_ret
            exact ⟨rfl, HB6.out.trans (hk.mono HB6.out.size)⟩
          | cons c r =>
            obtain ⟨rfl, a, rfl, hac, hal, haown⟩ := hy
            obtain ⟨ru, tu, su, ax⟩ := a
            simp only at hal haown
            obtain ⟨xa, xc, rfl⟩ := row_form haown
            unfold Ac.val
            simp only
            have hm0 : decide ((0 : Int) < (m : Int)) = true := decide_eq_true (by simp at hml; omega)
            have hm1 : (1 : Int) ≤ (m : Int) := by simp at hml; omega
            have hm3 : 0 < m := by omega
            have hm4 : decide (0 < m) = true := decide_eq_true hm3
            obtain ⟨g, lc', rfl, hlcm⟩ : ∃ g lc', la = some ⟨g, 0, none⟩ ∧ m ≤ lc := by
              rcases Hown.out.2 with ⟨e, h0⟩ | ⟨g, cap, cur, e, _, _, hcc, _⟩
              · omega
              · injection e with e1 e2 e3
                exact ⟨g, 0, e1, by omega⟩
            have hm2 : (1 : Int) ≤ (lc : Int) := by omega
            obtain ⟨W1, hW1⟩ : ∃ W1, V1.alloc (Obj.cells #[.int .i64 ru, .slice xa tu.length xc, .int .i64 su] 27) = W1 := ⟨_, rfl⟩
            have ob : Below V1.heap.size V1 W1 := by rw [← hW1]; exact ((Only.refl [] V1).alloc _).below
            have hbx := heap_alloc0 V1 (Obj.cells #[.int .i64 ru, .slice xa tu.length xc, .int .i64 su] 27)
            have hzW : W1.heap.size = V1.heap.size + 1 := by rw [← hW1]; simp
            rw [hW1] at hbx
            obtain ⟨d0, d1, d2, _⟩ := cells3a hbx
            have hbT := hbV1.trans (ob.mono hbV1.size)
            obtain ⟨W2, hW2⟩ : ∃ W2, (W1.alloc (Obj.cells #[.int .i64 ru, .slice xa tu.length xc, .int .i64 su] 27)).drew = W2 := ⟨_, rfl⟩
            have ob2 : Below W1.heap.size W1 W2 := by rw [← hW2]; exact (((Only.refl [] W1).alloc _).drew).below
            have hbx2 : W2.heap[W1.heap.size]? = some (Obj.cells #[.int .i64 ru, .slice xa tu.length xc, .int .i64 su] 27) := by rw [← hW2]; exact heap_alloc0 W1 _
            have hb2 := hbT.trans (ob2.mono hbT.size)
            have hxn2 : NIs W2 (.slice xa tu.length xc) tu := ((NIs.of_row hal haown).below ob).below ob2
            have hsa := sameAll_any _ _ _ _ W2 (acts_cells (a := ⟨ru, tu, su, .slice xa tu.length xc⟩) hbx2 hxn2) (acts_first (Hract.out.below hb2))
            rw [one_co, decide_eq_true hac] at hsa
            have hkeep : ∀ V, Below W2.heap.size W2 V → V.cell? ⟨V1.heap.size, 0, none⟩ = some (.int .i64 ru) ∧ V.cell? ⟨V1.heap.size, 1, none⟩ = some (.slice xa tu.length xc) ∧ V.cell? ⟨V1.heap.size, 2, none⟩ = some (.int .i64 su) := fun V hV => by
              have hz : V1.heap.size < W1.heap.size := by omega
              have hV' := ob2.trans (hV.mono ob2.size)
              exact ⟨(hV'.cell (p := ⟨V1.heap.size, 0, none⟩) hz).trans d0, (hV'.cell (p := ⟨V1.heap.size, 1, none⟩) hz).trans d1, (hV'.cell (p := ⟨V1.heap.size, 2, none⟩) hz).trans d2⟩
            have Hb2 := hide hb2
            rw [← hW2] at hsa hkeep Hb2
            have Hsa := hide hsa
            have Hkeep := hide hkeep
            have HW1 := hide hW1
            clear hW1 ob hbV1 Hnx hml hbx hzW hbT hW2 ob2 hbx2 hb2 hxn2 hsa hkeep hal haown hac
            go_upto_region 29 with fail
            rw [HW1.out]
            go_wp2_with fail
            go_region_held3 (fun V => V.cell? ⟨V1.heap.size, 0, none⟩ = some (.int .i64 ru) ∧ V.cell? ⟨V1.heap.size, 1, none⟩ = some (.slice xa tu.length xc) ∧ V.cell? ⟨V1.heap.size, 2, none⟩ = some (.int .i64 su)) (go_keep)
              ((go_at_call 19; have hqq := Hsa.out; with_reducible refine Calls.mono hqq ?_; clear hqq; rintro e Vt ⟨rfl, hbt⟩; obtain ⟨x0, x1, x2⟩ := Hkeep.out Vt hbt; have HbTt := hide (Hb2.out.trans (hbt.mono Hb2.out.size)); clear hbt))
            clear d0 d1 d2 x0 x1 x2 hm0 hm1 hm2 Hkeep Hsa
            have hlt2 := Hlist.out Vt HbTt.out
            have Hlt2 := hide hlt2
            clear hlt2
            go_wp2_with fail
            (with_reducible refine Hlt2.out.mono ?_)
            rintro e V5 ⟨a5, n5, c5, l5, rfl, h5a, h5c, h5b⟩
            have hsa5 := sameAll_any _ _ _ _ V5 h5a (Hract.out.below (HbTt.out.trans (h5b.mono HbTt.out.size)))
            rw [decide_eq_true h5c] at hsa5
            have Hsa5 := hide hsa5
            have HB5 := hide (HBo.out.trans ((HbTt.out.trans (h5b.mono HbTt.out.size)).mono HBo.out.size))
            clear h5a h5c h5b hsa5 Hlt2
            go_wp2_with fail
            (with_reducible refine Hsa5.out.mono ?_)
            rintro e V6 ⟨rfl, hb6⟩
            have HB6 := hide (HB5.out.trans (hb6.mono HB5.out.size))
            clear hb6 Hsa5
            go_wp2_with (go_at_call 9; refine (known27_walk _).mono ?_; rintro e w' ⟨rfl, hk⟩)
            go_ret
            exact ⟨rfl, HB6.out.trans (hk.mono HB6.out.size)⟩
end Go.Proofs.Ytelgajgghgknnaa
