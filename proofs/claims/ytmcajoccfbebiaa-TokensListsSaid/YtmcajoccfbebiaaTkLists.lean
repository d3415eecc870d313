/- The walk of witanlaw21.TokensLists. -/
import Derived.Test.YtmcajoccfbebiaaTkD
namespace Go.Proofs.Ytmcajoccfbebiaa
open Go Go.RowKit Go.MapKept Go.Sort

/-- What stands at the number c. -/
structure CSt (w0 wr : World) (A : Ar) (T : List Tk) (last : Int) (k : Nat) (c th kd : Int) : Prop where
  ast : ASt w0 wr A T last k
  th : th = less Tk.id T c
  kd : kd + 1 = less parG T c

set_option maxRecDepth 100000 in
set_option maxHeartbeats 8000000 in
theorem lists_walk (v : Value) (l : List OpT) (w : World) (hv : OpsT w v l) :
    Calls Try.prog 5 #[v] w fun e w' => e = .returned (.bool true) ∧ Below w.heap.size w w' := by
  obtain ⟨va, vc, rfl⟩ := hv.form
  have hl63 := hv.1
  by_cases h60 : 60 < l.length
  · have h60' : (60 : Int) < (l.length : Int) := by omega
    clear hv
    go_enter Try.func5, Try.ntmps5
    go_wp2_with fail
    refine (known21 _).mono ?_
    rintro e w' ⟨rfl, hb⟩
    go_wp2
    go_ret
    exact ⟨rfl, hb⟩
  have h60' : decide ((60 : Int) < (l.length : Int)) = false := by simp; omega
  have h60n : decide (60 < l.length) = false := by simp; omega
  have Hb := hide (built_any _ l w hv (by omega))
  clear hv
  go_enter Try.func5, Try.ntmps5
  go_wp2_with fail
  (with_reducible refine Hb.out.mono ?_)
  rintro e V ⟨a, rfl, A, hA, hS⟩
  clear Hb
  subst hA
  obtain ⟨s, hs⟩ : ∃ s, runT l = s := ⟨_, rfl⟩
  rw [hs] at hS ⊢
  obtain ⟨T, last⟩ := s
  simp only at hS ⊢
  have hT := hide hS.tree
  have hle := hS.le
  have hl0 := hS.tree.lst
  have hlen := hS.len
  have hl60 : last ≤ 60 := by omega
  have HS : Hid (CSt w V A T last l.length 0 0 0) := hide ⟨hS, by
    have : less Tk.id T 0 = 0 := by
      unfold less
      rw [List.length_eq_zero_iff, List.filter_eq_nil_iff]
      intro t ht
      have := (hT.out.ge t ht).1
      simp
      omega
    rw [this]; rfl, by rw [hT.out.less_par]; rfl⟩
  clear hS hs
  go_wp2_with fail
  go_loopw [5, 6, 7] (fun v5 v6 v7 wr => ∃ c th kd : Int, 0 ≤ c ∧ c ≤ last + 1 ∧ v7 = .int .i64 c ∧ v5 = .int .i64 th ∧ v6 = .int .i64 kd ∧ Hid (CSt w wr A T last l.length c th kd)) (fun _ _ v7 _ => (last + 1 - intOf v7).toNat)
  case atStart => exact ⟨0, 0, 0, by omega, by omega, rfl, rfl, rfl, HS.out⟩
  case round =>
    clear HS
    obtain ⟨c, th, kd, hc0, hc1, rfl, rfl, rfl, hq⟩ := hrel
    have Hth := hide hq.out.th
    have Hkd := hide hq.out.kd
    have hthb : 0 ≤ th ∧ th ≤ 61 := by
      have := Hth.out
      have := List.length_filter_le (fun t : Tk => decide (t.id < c)) T
      unfold less at *
      omega
    have hkdb : -1 ≤ kd ∧ kd ≤ 61 := by
      have := Hkd.out
      have := List.length_filter_le (fun t : Tk => decide (parG t < c)) T
      unfold less at *
      omega
    by_cases hcl : c ≤ last
    · have g1 : decide (c ≤ last) = true := by simpa using hcl
      have Hg := hide (hq.out.ast.get c)
      have HA := hide hq.out.ast
      have hsi := hT.out.ids_count c
      have hkc := kids_count T hc0
      have hs1 := less_succ Tk.id T c
      have hs2 := less_succ parG T c
      rw [hkc] at hs2
      rw [hsi] at hs1
      have hkl : (ofG kG T c).length ≤ 61 := by have := ofG_len kG T c; omega
      clear hq hsi hkc
      go_wp2_with fail
      (with_reducible refine Hg.out.mono ?_)
      rintro e V1 ⟨rfl, hb1⟩
      have hA1 := HA.out.below' hb1
      clear Hg HA
      cases hg : getT T c with
      | none =>
        rw [hg] at hs1
        have hnk := hT.out.no_kids hg
        have htp : tupT T last c = [] := by unfold tupT; rw [TreeOk.chain_none c hg]; rfl
        have hA2 := hA1.below' (((Only.refl [] V1).alloc (.cells #[.int .i64 0, .int .i64 0, .int .i64 0, .int .i64 0] 32)).below)
        have Hk := hide (hA2.kids c)
        rw [hnk] at Hk hs2
        have HA2 := hide hA2
        simp only [Option.getD_none, Option.isSome_none, noTk, Tk.val]
        clear hA1 hA2 hb1
        go_wp2_with fail
        (with_reducible refine Hk.out.mono ?_)
        rintro e V2 ⟨ka, kc, rfl, _, hb2⟩
        have hA3 := HA2.out.below' hb2
        have Hk2 := hide (hA3.kids c)
        rw [hnk] at Hk2
        have HA3 := hide hA3
        simp only [List.length_nil] at hs2 Hk2 ⊢
        clear Hk HA2 hb2 hA3
        go_wp2_with fail
        (with_reducible refine Hk2.out.mono ?_)
        rintro e V3 ⟨ka2, kc2, rfl, _, hb3⟩
        have hA4 := HA3.out.below' hb3
        have Ht := hide (hA4.tuple (by omega) c)
        rw [htp] at Ht
        have HA4 := hide hA4
        simp only [List.length_nil] at Ht ⊢
        clear Hk2 HA3 hb3 hA4
        go_wp2_with fail
        (with_reducible refine Ht.out.mono ?_)
        rintro e V4 ⟨ta, tc, rfl, _, hb4⟩
        have HF : Hid (CSt w V4 A T last l.length (c + 1) th kd) := hide ⟨HA4.out.below' hb4, by rw [hs1]; simpa using Hth.out, by rw [hs2]; simpa using Hkd.out⟩
        clear HA4 hb4 Ht
        go_wp2
        go_roundw
        case rel => exact ⟨c + 1, th, kd, by omega, by omega, by go_num, rfl, by first | rfl | simp, HF⟩
        case measure => simp [intOf]; omega
      | some t =>
        obtain ⟨htT, hte⟩ := getT_some hg
        have hlt := hT.out.lt t htT
        have hpos := hT.out.pos t htT
        have hz := fun e => hT.out.of0 htT e
        rw [hg] at hs1
        obtain ⟨t0, t1, t2, t3⟩ := t
        simp only at hte hlt hpos hz
        subst hte
        simp only [Option.isSome_some, if_true] at hs1
        have hc1 := cnt_one (ofG_asc (g := aG) hT.out.asc t2) (n := t0) (ofG_mem.2 ⟨_, htT, rfl, rfl⟩)
        have hc2 : t0 ≠ 0 → cnt (ofG kG T t1) t0 = 1 := fun h0 => cnt_one (ofG_asc (g := kG) hT.out.asc t1) (n := t0) (kid_mem.2 ⟨_, htT, h0, rfl, rfl⟩)
        have hc3 : 0 < t3 → cnt (ofG wG T t3) t0 = 1 := fun h0 => cnt_one (ofG_asc (g := wG) hT.out.asc t3) (n := t0) (ofG_mem.2 ⟨_, htT, by unfold wG; rw [if_pos h0], rfl⟩)
        have hL1 : LSt w (V1.alloc (.cells #[.int .i64 t0, .int .i64 t1, .int .i64 t2, .int .i64 t3] 32)) A T last l.length V1.heap.size ⟨t0, t1, t2, t3⟩ := ⟨hA1.below' (((Only.refl [] V1).alloc _).below), heap_alloc0 V1 _⟩
        have Hk := hide (hL1.ast.kids t0)
        have HL := hide hL1
        simp only [Option.getD_some, Option.isSome_some, Tk.val]
        clear hA1 hL1 hb1
        go_wp2_with fail
        (with_reducible refine Hk.out.mono ?_)
        rintro e V2 ⟨ka, kc, rfl, _, hb2⟩
        have hL2 := HL.out.below hb2
        obtain ⟨b0, b1, b2, b3, _⟩ := cells4t hL2.bz
        have Hat := hide (hL2.ast.at' t2)
        have HL2 := hide hL2
        simp only at b0 b1 b2 b3
        clear Hk HL hb2 hL2
        obtain ⟨kl, hkl2⟩ : ∃ kl, (ofG kG T t0).length = kl := ⟨_, rfl⟩
        rw [hkl2] at hs2 hkl ⊢
        have Hs1 := hide hs1
        have Hs2 := hide hs2
        have Hc2 := hide hc2
        have Hc3 := hide hc3
        have Hz := hide hz
        clear hs1 hs2 hc2 hc3 hz hkl2
        go_wp2_with fail
        (with_reducible refine Hat.out.mono ?_)
        rintro e V3 ⟨aa, ac, rfl, hr, hb3⟩
        have hL3 := HL2.out.below hb3
        have Hin := hide (hL3.ast.inn hr t0)
        rw [hc1] at Hin
        have HL3 := hide hL3
        clear Hat HL2 hb3 hL3 hr hc1 b0 b1 b2 b3
        go_wp2_with fail
        (with_reducible refine Hin.out.mono ?_)
        rintro e V4 ⟨rfl, hb4⟩
        have hL4 := HL3.out.below hb4
        have HL4 := hide hL4
        clear Hin HL3 hb4
        have key : Hid (∀ V', LSt w V' A T last l.length V1.heap.size ⟨t0, t1, t2, t3⟩ → CSt w V' A T last l.length (t0 + 1) (th + 1) (kd + kl)) := hide fun V' h => ⟨h.ast, by rw [Hs1.out]; have := Hth.out; omega, by rw [Hs2.out]; have := Hkd.out; omega⟩
        by_cases h0 : 0 < t0
        · have g0 : decide (0 < t0) = true := by simpa using h0
          have hc2 := Hc2.out (by omega)
          obtain ⟨b0, b1, b2, b3, _⟩ := cells4t hL4.bz
          simp only at b0 b1 b2 b3
          have Hk := hide (hL4.ast.kids t1)
          clear hL4
          go_wp2_with fail
          (with_reducible refine Hk.out.mono ?_)
          rintro e V5 ⟨ka, kc, rfl, hr, hb5⟩
          have hL5 := HL4.out.below hb5
          have Hin := hide (hL5.ast.inn hr t0)
          rw [hc2] at Hin
          have HL5 := hide hL5
          clear Hk HL4 hb5 hL5 hr hc2 b0 b1 b2 b3
          go_wp2_with fail
          (with_reducible refine Hin.out.mono ?_)
          rintro e V6 ⟨rfl, hb6⟩
          have hL6 := HL5.out.below hb6
          obtain ⟨b0, b1, b2, b3, _⟩ := cells4t hL6.bz
          simp only at b0 b1 b2 b3
          clear Hin HL5 hb6
          by_cases h3 : 0 < t3
          · have g3 : decide (0 < t3) = true := by simpa using h3
            have hc3 := Hc3.out h3
            have Hw := hide (hL6.ast.wit t3)
            have HL6 := hide hL6
            clear hL6
            go_wp2_with fail
            (with_reducible refine Hw.out.mono ?_)
            rintro e V7 ⟨wa, wc, rfl, hr, hb7⟩
            have hL7 := HL6.out.below hb7
            have Hin := hide (hL7.ast.inn hr t0)
            rw [hc3] at Hin
            have HL7 := hide hL7
            clear Hw HL6 hb7 hL7 hr hc3 b0 b1 b2 b3
            go_wp2_with fail
            (with_reducible refine Hin.out.mono ?_)
            rintro e V8 ⟨rfl, hb8⟩
            have HF := hide (key.out _ (HL7.out.below hb8))
            clear Hin HL7 hb8 key
            go_wp2
            go_roundw
            case rel => exact ⟨t0 + 1, th + 1, kd + kl, by omega, by omega, by go_num, by first | rfl | go_num, by first | rfl | go_num, HF⟩
            case measure => simp [intOf]; omega
          · have g3 : decide (0 < t3) = false := by simpa using h3
            have HF := hide (key.out _ hL6)
            clear hL6 key
            go_wp2
            go_roundw
            case rel => exact ⟨t0 + 1, th + 1, kd + kl, by omega, by omega, by go_num, by first | rfl | go_num, by first | rfl | go_num, HF⟩
            case measure => simp [intOf]; omega
        · have e0 : t0 = 0 := by omega
          have hzz := Hz.out e0
          simp only [zeroTk, Tk.mk.injEq] at hzz
          obtain ⟨_, rfl, rfl, rfl⟩ := hzz
          subst e0
          obtain ⟨b0, b1, b2, b3, _⟩ := cells4t hL4.bz
          simp only at b0 b1 b2 b3
          have HF := hide (key.out _ hL4)
          clear hL4 key HL4
          go_wp2
          go_roundw
          case rel => exact ⟨0 + 1, th + 1, kd + kl, by omega, by omega, by first | rfl | go_num, by first | rfl | go_num, by first | rfl | go_num, HF⟩
          case measure => simp [intOf]; omega
    · obtain rfl : c = last + 1 := by omega
      have g1 : decide (last + 1 ≤ last) = false := by simp; omega
      have hA := hq.out.ast
      have e1 : th = (T.length : Int) := by rw [Hth.out, hT.out.less_all]
      have e2 : kd = (T.length : Int) - 1 := by have := Hkd.out; rw [hT.out.less_par_all] at this; omega
      subst e1 e2
      have hTl := hA.len
      have Hl := hide hA.lenn
      have HA := hide hA
      clear hq hA Hth Hkd hthb hkdb
      go_wp2_with fail
      (with_reducible refine Hl.out.mono ?_)
      rintro e V1 ⟨rfl, hb1⟩
      have hA1 := HA.out.below' hb1
      have Hw := hide (hA1.wit 0)
      rw [no_with] at Hw
      have HA1 := hide hA1
      clear Hl HA hb1 hA1
      go_wp2_with fail
      (with_reducible refine Hw.out.mono ?_)
      rintro e V2 ⟨wa, wc, rfl, _, hb2⟩
      have HB := hide (HA1.out.below' hb2).below
      simp only [List.length_nil]
      clear Hw HA1 hb2
      go_wp2_with fail
      (with_reducible refine (known21 _).mono ?_)
      rintro e V3 ⟨rfl, hb3⟩
      go_wp2
      go_ret
      exact ⟨rfl, HB.out.trans (hb3.mono HB.out.size)⟩
end Go.Proofs.Ytmcajoccfbebiaa
