/- The walk of witanlaw21.TokensTree. -/
import Derived.Test.YtmcajoccfbebiaaTkTL
import Derived.Deep.CutBlock
namespace Go.Proofs.Ytmcajoccfbebiaa
open Go Go.RowKit Go.MapKept Go.Sort

theorem cells_op {w : World} {x y z u : Value} : (w.alloc (.cells #[x, y, z, u] 44)).heap[w.heap.size]? = some (.cells #[x, y, z, u] 44 (0, 0)) := heap_alloc0 w _
/-- An arena at this pointer, whatever it has. -/
def AnyA (w0 wr : World) (a : Nat) (n : Nat) : Prop := ∃ (A : Ar) (T : List Tk) (last : Int), A.a = a ∧ ASt w0 wr A T last n

set_option maxRecDepth 100000 in
set_option maxHeartbeats 8000000 in
theorem tree_walk (v : Value) (l : List OpT) (w : World) (hv : OpsT w v l) :
    Calls Try.prog 4 #[v] w fun e w' => e = .returned (.bool true) ∧ Below w.heap.size w w' := by
  obtain ⟨va, vc, rfl⟩ := hv.form
  have hl63 := hv.1
  by_cases h60 : 60 < l.length
  · have h60' : (60 : Int) < (l.length : Int) := by omega
    clear hv
    go_enter Try.func4, Try.ntmps4
    go_wp2_with fail
    refine (known21 _).mono ?_
    rintro e w' ⟨rfl, hb⟩
    go_wp2
    go_ret
    exact ⟨rfl, hb⟩
  have h60' : decide ((60 : Int) < (l.length : Int)) = false := by simp; omega
  have h60n : decide (60 < l.length) = false := by simp; omega
  have Hv := hide hv
  clear hv
  go_enter Try.func4, Try.ntmps4
  go_wp2_with fail
  (with_reducible refine (ASt.new w).mono ?_)
  rintro e V ⟨A, rfl, hA⟩
  obtain ⟨a, ha⟩ : ∃ a, A.a = a := ⟨_, rfl⟩
  rw [ha]
  have HS : Hid (AnyA w V a 0) := hide ⟨A, _, _, ha, hA⟩
  clear hA ha
  go_wp2_with fail
  go_loopw [31] (fun vi wr => ∃ j : Nat, j ≤ l.length ∧ vi = .int .i64 j ∧ Hid (AnyA w wr a j)) (fun vi _ => l.length - (intOf vi).toNat)
  case atStart => exact ⟨0, Nat.zero_le _, rfl, HS.out⟩
  case round =>
    clear HS
    obtain ⟨j, hj, rfl, hq⟩ := hrel
    by_cases hjl : j < l.length
    · obtain ⟨A1, T, last, hA1, hS⟩ := hq.out
      obtain ⟨wo, rfl⟩ : ∃ wo : World, wo = wr := ⟨_, rfl⟩
      obtain ⟨b, off, cap, e, hat⟩ := (Hv.out.below hS.below).at hjl
      injection e with e1 e2 e3
      subst e1
      clear e2 e3
      obtain ⟨c0, c1, c2, c3⟩ := hat
      obtain ⟨o, ho⟩ : ∃ o, l[j] = o := ⟨_, rfl⟩
      rw [ho] at c0 c1 c2 c3
      obtain ⟨ok, oa, ob, oc⟩ := o
      simp only at c0 c1 c2 c3
      have hS2 := hS.below' (((Only.refl [] wo).alloc (.cells #[.int .i64 ok, .int .i64 oa, .int .i64 ob, .int .i64 oc] 44)).below)
      obtain ⟨x0, x1, x2, x3, _⟩ := cells4t (cells_op (w := wo) (x := .int .i64 ok) (y := .int .i64 oa) (z := .int .i64 ob) (u := .int .i64 oc))
      have i1 : (0 : Int) ≤ (j : Int) := by omega
      have i2 : (j : Int) < (l.length : Int) := by omega
      have hTl := hS.len
      have hle := hS.le
      have hl0 := hS.tree.lst
      have Hl := hide hS2.lenn
      have HS2 := hide hS2
      have Hbx := hide (cells_op (w := wo) (x := .int .i64 ok) (y := .int .i64 oa) (z := .int .i64 ob) (u := .int .i64 oc))
      subst hA1
      clear hq hS hS2 ho
      go_wp2_with fail
      (with_reducible refine Hl.out.mono ?_)
      rintro e V1 ⟨rfl, hb1⟩
      have hS3 := HS2.out.below' hb1
      have hbx1 := (hb1.block wo.heap.size (by simp)).trans Hbx.out
      obtain ⟨y0, y1, y2, y3, _⟩ := cells4t hbx1
      have HS3 := hide hS3
      have Hbx1 := hide hbx1
      clear Hl HS2 hb1 hS3 hbx1 Hbx x0 x1 x2 x3 c0 c1 c2 c3
      by_cases hk : ok = 1
      · subst hk
        have Hadd := hide (HS3.out.add (by omega) oa ob oc)
        have hzl := lt_of_heap Hbx1.out
        go_wp2_with fail
        (with_reducible refine Hadd.out.mono ?_)
        rintro e X ⟨id, er, A2, rfl, hto, hor⟩
        clear Hadd
        have HzA : Hid (¬ A1.foot wo.heap.size) := hide fun q => not_map_op HS3.out.ar.r q Hbx1.out
        have hbx2 := (hto.only.block wo.heap.size hzl (fun q => HzA.out (Ar.mem_all.1 q))).trans Hbx1.out
        rcases hor with ⟨rfl, rfl, T', hT', hS4⟩ | ⟨her, rfl, hT', hS4⟩
        · obtain ⟨hp, hn, hf, rfl⟩ := addT_some hT'
          have htree := HS3.out.tree
          have hget := htree.get_add hp hn hf
          have hkid := htree.kid_add (p := oa) (n := ob) (f := oc)
          have htup := htree.tup_add hp hn hf
          have hplt := htree.par_lt hp
          have hge : decide (last + 1 ≤ oa) = false := by simp; omega
          obtain ⟨y0, y1, y2, y3, _⟩ := cells4t hbx2
          have Hg := hide (hS4.get (last + 1))
          rw [hget, hto.a] at Hg
          simp only [Option.getD_some, Option.isSome_some, Tk.val] at Hg
          have hT1l : (T ++ [(⟨last + 1, oa, ob, oc⟩ : Tk)]).length = T.length + 1 := by simp
          have HS4 := hide hS4
          have Hbx2 := hide hbx2
          have Ha2 := hide hto.a
          have Hkid := hide hkid
          have Htup := hide htup
          obtain ⟨T1, hT1⟩ : ∃ T1, T ++ [(⟨last + 1, oa, ob, oc⟩ : Tk)] = T1 := ⟨_, rfl⟩
          rw [hT1] at HS4 Hkid Htup hT1l
          clear hT1 hT' hS4 hto hget hkid htup HS3 Hbx1 HzA hbx2 htree hp
          go_wp2_with fail
          (with_reducible refine Hg.out.mono ?_)
          rintro e X1 ⟨rfl, hb1⟩
          have hbA : Below X1.heap.size X1 (X1.alloc (.cells #[.int .i64 (last + 1), .int .i64 oa, .int .i64 ob, .int .i64 oc] 32)) := ((Only.refl [] X1).alloc _).below
          have hb2 := hb1.trans (hbA.mono hb1.size)
          have hS5 := HS4.out.below' hb2
          have hbz := heap_alloc0 X1 (.cells #[.int .i64 (last + 1), .int .i64 oa, .int .i64 ob, .int .i64 oc] 32)
          have hbx3 := (hb2.block wo.heap.size (lt_of_heap Hbx2.out)).trans Hbx2.out
          have Hk := hide (hS5.kids oa)
          rw [Ha2.out] at Hk
          obtain ⟨z0, z1, z2, z3, _⟩ := cells4t hbx3
          have HS5 := hide hS5
          have Hbz := hide hbz
          have Hbx3 := hide hbx3
          clear Hg HS4 hb1 hb2 hbA hS5 hbz hbx3 Hbx2 y0 y1 y2 y3
          go_wp2_with fail
          (with_reducible refine Hk.out.mono ?_)
          rintro e X2 ⟨ka, kc, rfl, hrow, hb3⟩
          have hS6 := HS5.out.below' hb3
          have hbz2 := (hb3.block X1.heap.size (lt_of_heap Hbz.out)).trans Hbz.out
          have hbx4 := (hb3.block wo.heap.size (lt_of_heap Hbx3.out)).trans Hbx3.out
          have hkl := ofG_len kG T1 oa
          have hkn := HS5.out.nis hrow
          obtain ⟨K, hK⟩ : ∃ K, ofG kG T1 oa = K := ⟨_, rfl⟩
          rw [hK] at hkn hkl Hkid ⊢
          have HR := hide (And.intro hS6 (And.intro hbz2 (And.intro hbx4 hkn)))
          clear Hk HS5 hb3 hS6 hbz2 hbx4 hkn hrow Hbz Hbx3 z0 z1 z2 z3 hK
          go_wp2_with fail
          go_loopw [16, 90] (fun v16 vi wz => ∃ q : Nat, q ≤ K.length ∧ vi = .int .i64 q ∧ v16 = .bool ((K.take q).any (fun x => x == last + 1)) ∧ wz = X2) (fun _ vi _ => K.length - (intOf vi).toNat)
          case atStart => exact ⟨0, Nat.zero_le _, rfl, rfl, rfl⟩
          case round =>
            obtain ⟨q, hqm, rfl, rfl, rfl⟩ := hrel
            by_cases hql : q < K.length
            · obtain ⟨bk, ko, kcap, e, d0⟩ := nis_at HR.out.2.2.2 hql
              injection e with e1 e2 e3
              subst e1
              clear e2 e3
              have hst := any_take K (last + 1) hql
              obtain ⟨kz, hkz⟩ : ∃ kz, K[q] = kz := ⟨_, rfl⟩
              rw [hkz] at d0 hst
              have i3 : (0 : Int) ≤ (q : Int) := by omega
              have i4 : (q : Int) < (K.length : Int) := by omega
              obtain ⟨p, hp⟩ : ∃ p, (K.take q).any (fun x => x == last + 1) = p := ⟨_, rfl⟩
              rw [hp] at hst ⊢
              have Hst := hide hst
              clear hst hp hkz
              cases p with
              | true =>
                go_wp2
                go_roundw
                case rel => exact ⟨q + 1, by omega, by go_num, by rw [Hst.out]; rfl, by trivial⟩
                case measure => simp [intOf]; omega
              | false =>
                obtain ⟨p2, hp2⟩ : ∃ p, (kz == last + 1) = p := ⟨_, rfl⟩
                rw [hp2] at Hst
                go_wp2
                go_roundw
                case rel => exact ⟨q + 1, by omega, by go_num, by rw [Hst.out]; first | rfl | simp [hp2], by trivial⟩
                case measure => simp [intOf]; omega
            · obtain rfl : q = K.length := by omega
              have hany : (K.take K.length).any (fun x => x == last + 1) = true := by rw [List.take_length]; exact any_mem Hkid.out
              rw [hany]
              obtain ⟨hS6, hbz, hbx, hkn⟩ := HR.out
              obtain ⟨z0, z1, z2, z3, _⟩ := cells4t hbx
              have Ht := hide (hS6.tuple (by omega) oa)
              rw [Ha2.out] at Ht
              have HS6 := hide hS6
              have Hbz := hide hbz
              have Hbx := hide hbx
              clear hany hS6 hbz hbx hkn HR Hkid
              go_wp2_with fail
              (with_reducible refine Ht.out.mono ?_)
              rintro e X3 ⟨ta, tc, rfl, hrow, hb3⟩
              have htl : (tupT T1 (last + 1) oa).length ≤ 100 := by
                have := chain_len T1 (last + 1 + 1).toNat oa
                unfold tupT
                rw [List.length_reverse]
                omega
              have hbz3 := (hb3.block X1.heap.size (lt_of_heap Hbz.out)).trans Hbz.out
              have hbx3 := (hb3.block wo.heap.size (lt_of_heap Hbx.out)).trans Hbx.out
              obtain ⟨y0, y1, y2, y3, _⟩ := cells4t hbx3
              have hS7 := HS6.out.below' hb3
              by_cases hf0 : 0 < oc
              · have g0 : decide (0 < oc) = true := by simpa using hf0
                rw [if_pos hf0] at Htup
                obtain ⟨i0, hi, hz0, hz1, hz2⟩ := int_parts
                have Hi0 := hide hi
                have Hz0 := hide hz0
                have Hz1 := hide hz1
                have Hz2 := hide hz2
                have Hrow := hide hrow
                have HS7 := hide hS7
                have Hbz3 := hide hbz3
                have Hbx3 := hide hbx3
                have Hlow : Hid (∀ k, A2.foot k → k < _) := hide fun k hk => HS6.out.ar.lt hk
                have hX23 := hb3.size
                have hwX := HS6.out.below.size
                obtain ⟨tl, htle⟩ : ∃ tl, tupT T1 (last + 1) oa = tl := ⟨_, rfl⟩
                rw [htle] at Hrow Htup htl ⊢
                clear hi hz0 hz1 hz2 hrow hS7 hbz3 hbx3 hb3 Ht HS6 Hbz Hbx htle z0 z1 z2 z3
                have hap : X3.heap.size < (X3.alloc (.cells #[.int .i64 oc] 3)).heap.size := by simp
                go_wp2_with (at_builtin; refine wpList_append_own _ rfl (.tmp 108) (.tmp 111) _ rfl _ 3 i0 (.int .i64 0) 1 8 Try.underlying36 Hi0.out Hz0.out Hz1.out Hz2.out rfl (by decide) (.slice ta tl.length tc) tl.length _ rfl (Hrow.out.alloc _) ⟨X3.heap.size, 0, none⟩ 1 1 [.int .i64 oc] rfl rfl (World.news_of_block (cs := #[.int .i64 oc]) (heap_alloc0 X3 _)) (by simp [Value.oneCell']) (by unfold maxLen; omega) (by omega) (by simp; omega) ?_; intro v4 X4 ho4 hg4 _; obtain ⟨na, nc, rfl⟩ := row_form ho4; have HW : Hid (ASt w X4 A2 T1 (last + 1) (j + 1) ∧ X4.heap[X1.heap.size]? = some (.cells #[.int .i64 (last + 1), .int .i64 oa, .int .i64 ob, .int .i64 oc] 32 (0, 0)) ∧ X4.heap[wo.heap.size]? = some (.cells #[.int .i64 1, .int .i64 oa, .int .i64 ob, .int .i64 oc] 44 (0, 0)) ∧ NIs X4 (.slice na (tl.length + 1) nc) (tl ++ [oc])) := hide (by
                  have hof : Only (Value.ownBlock (.slice ta tl.length tc)).toList (X3.alloc (.cells #[.int .i64 oc] 3)) X4 := Only.of_grown hg4 _ fun k hk => by rw [hk]; simp
                  have hbA : Below X3.heap.size X3 (X3.alloc (.cells #[.int .i64 oc] 3)) := ((Only.refl [] X3).alloc _).below
                  refine ⟨(HS7.out.below' hbA).other hof fun k hk => ?_, (hof.block _ (Nat.lt_trans (lt_of_heap Hbz3.out) hap) fun q => owns_not Hrow.out Hbz3.out (by decide) (by simpa using q)).trans ((hbA.block _ (lt_of_heap Hbz3.out)).trans Hbz3.out), (hof.block _ (Nat.lt_trans (lt_of_heap Hbx3.out) hap) fun q => owns_not Hrow.out Hbx3.out (by decide) (by simpa using q)).trans ((hbA.block _ (lt_of_heap Hbx3.out)).trans Hbx3.out), ?_⟩
                  · have hk1 := Hrow.out.lt k (by simpa using hk)
                    exact ⟨fun q => by have := Hlow.out k q; omega, by omega⟩
                  · have := NIs.of_row (l := tl ++ [oc]) (by simp; omega) (by rw [List.length_append, List.map_append]; exact ho4)
                    simpa using this); clear ho4 hg4 Hrow HS7 Hbz3 Hbx3 Hi0 Hz0 Hz1 Hz2 hap Hlow y0 y1 y2 y3; obtain ⟨hS8, hbz8, hbx8, hwn⟩ := HW.out; obtain ⟨z0, z1, z2, z3, _⟩ := cells4t hbz8; obtain ⟨y0, y1, y2, y3, _⟩ := cells4t hbx8; have Hl := hide hS8.lenn; rw [Ha2.out, hT1l] at Hl; have HS8 := hide hS8; have Hwn := hide hwn; clear hS8 hbz8 hbx8 hwn HW)
                (with_reducible refine Hl.out.mono ?_)
                rintro e X5 ⟨rfl, hb5⟩
                have hS9 := HS8.out.below' hb5
                have Ht2 := hide (hS9.tuple (by omega) (last + 1))
                rw [Ha2.out, Htup.out] at Ht2
                have Hwn2 := hide (Hwn.out.below hb5)
                have HS9 := hide hS9
                clear Hl HS8 hb5 hS9 Hwn z0 z1 z2 z3 y0 y1 y2 y3
                go_wp2_with fail
                (with_reducible refine Ht2.out.mono ?_)
                rintro e X6 ⟨ua, uc, rfl, hrow6, hb6⟩
                have Hi := hide (ints_any _ _ _ _ X6 (NIs.of_row (by rw [← Htup.out]; have := chain_len T1 (last + 1 + 1).toNat (last + 1); unfold tupT; rw [List.length_reverse]; omega) hrow6) (Hwn2.out.below hb6))
                simp only [List.length_append, List.length_cons, List.length_nil, Nat.zero_add] at Hi
                have HF := hide (HS9.out.below' hb6)
                clear Ht2 HS9 hrow6 hb6 Hwn2
                go_wp2_with fail
                (with_reducible refine Hi.out.mono ?_)
                rintro e X7 ⟨rfl, m, rfl⟩
                have HF2 : Hid (AnyA w (X6.drewN m) A1.a (j + 1)) := hide ⟨A2, T1, last + 1, Ha2.out, HF.out.below' ((Only.refl [] X6).drewN m).below⟩
                simp only [decide_true]
                clear Hi HF
                go_wp2
                go_roundw
                case rel => exact ⟨j + 1, by omega, by go_num, HF2⟩
                case measure => simp [intOf]; omega
              · have g0 : decide (0 < oc) = false := by simpa using hf0
                rw [if_neg hf0, List.append_nil] at Htup
                have HW := hide (And.intro hS7 (And.intro hbz3 (And.intro hbx3 (NIs.of_row (by omega) hrow))))
                obtain ⟨tl, htle⟩ : ∃ tl, tupT T1 (last + 1) oa = tl := ⟨_, rfl⟩
                rw [htle] at HW Htup htl ⊢
                clear hrow hS7 hbz3 hbx3 hb3 Ht HS6 Hbz Hbx htle z0 z1 z2 z3
                obtain ⟨hS8, hbz8, hbx8, hwn⟩ := HW.out
                obtain ⟨z0, z1, z2, z3, _⟩ := cells4t hbz8
                clear y0 y1 y2 y3
                obtain ⟨y0, y1, y2, y3, _⟩ := cells4t hbx8
                have Hl := hide hS8.lenn
                rw [Ha2.out, hT1l] at Hl
                have HS8 := hide hS8
                have Hwn := hide hwn
                clear hS8 hbz8 hbx8 hwn HW
                go_wp2_with fail
                (with_reducible refine Hl.out.mono ?_)
                rintro e X5 ⟨rfl, hb5⟩
                have hS9 := HS8.out.below' hb5
                have Ht2 := hide (hS9.tuple (by omega) (last + 1))
                rw [Ha2.out, Htup.out] at Ht2
                have Hwn2 := hide (Hwn.out.below hb5)
                have HS9 := hide hS9
                clear Hl HS8 hb5 hS9 Hwn z0 z1 z2 z3 y0 y1 y2 y3
                go_wp2_with fail
                (with_reducible refine Ht2.out.mono ?_)
                rintro e X6 ⟨ua, uc, rfl, hrow6, hb6⟩
                have Hi := hide (ints_any _ _ _ _ X6 (NIs.of_row (by rw [← Htup.out]; have := chain_len T1 (last + 1 + 1).toNat (last + 1); unfold tupT; rw [List.length_reverse]; omega) hrow6) (Hwn2.out.below hb6))
                have HF := hide (HS9.out.below' hb6)
                clear Ht2 HS9 hrow6 hb6 Hwn2
                go_wp2_with fail
                (with_reducible refine Hi.out.mono ?_)
                rintro e X7 ⟨rfl, m, rfl⟩
                have HF2 : Hid (AnyA w (X6.drewN m) A1.a (j + 1)) := hide ⟨A2, T1, last + 1, Ha2.out, HF.out.below' ((Only.refl [] X6).drewN m).below⟩
                simp only [decide_true]
                clear Hi HF
                go_wp2
                go_roundw
                case rel => exact ⟨j + 1, by omega, by go_num, HF2⟩
                case measure => simp [intOf]; omega
        · have her2 : (er != 0) = true := by simpa using her
          have HF : Hid (AnyA w X A1.a (j + 1)) := hide ⟨A2, T, last, hto.a, hS4⟩
          clear hto hT' hS4 HS3 Hbx1 HzA hbx2 y0 y1 y2 y3
          go_wp2
          go_roundw
          case rel => exact ⟨j + 1, by omega, by go_num, HF⟩
          case measure => simp [intOf]; omega
      · have hk1 : (ok != 1) = true := by simpa using hk
        have hrl := HS3.out.tree.rem_len oa
        have Hrem := hide (HS3.out.rem oa)
        have HS3b := hide HS3.out.below.size
        clear HS3 Hbx1 hk
        go_wp2_with fail
        (with_reducible refine Hrem.out.mono ?_)
        rintro e X ⟨vr, R, A2, rfl, hrow, hperm, _, hto, hS4⟩
        obtain ⟨ra, rc, rfl⟩ := row_form hrow
        have hRl : R.length = (goneL T last oa).length := hperm.length_eq
        have Hl := hide hS4.lenn
        rw [hto.a] at Hl
        have hlen : ((remT T last oa).length : Int) = (T.length : Int) - (R.length : Int) := by omega
        rw [hlen] at Hl
        have hR60 : R.length ≤ T.length := by omega
        have HS4 := hide hS4
        have Hrow := hide hrow
        have Ha2 := hide hto.a
        have Hno : Hid (∀ t ∈ R, getT (remT T last oa) t.id = none) := hide fun t ht => gone_none (hperm.mem_iff.1 ht)
        clear hrow hperm hto hS4 Hrem hlen hRl hrl y0 y1 y2 y3
        go_wp2_with fail
        (with_reducible refine Hl.out.mono ?_)
        rintro e X1 ⟨rfl, hb1⟩
        have HR : Hid (ASt w X1 A2 (remT T last oa) last j ∧ X1.ownsRow w.heap.size 32 4 (.slice ra R.length rc) R.length (tflat R)) := hide ⟨HS4.out.below' hb1, owns_base (owns_below Hrow.out hb1) HS3b.out⟩
        clear Hl HS4 Hrow hb1
        go_wp2_with fail
        go_loopw [53] (fun vi wz => ∃ q : Nat, q ≤ R.length ∧ vi = .int .i64 q ∧ Hid (ASt w wz A2 (remT T last oa) last j ∧ wz.ownsRow w.heap.size 32 4 (.slice ra R.length rc) R.length (tflat R))) (fun vi _ => R.length - (intOf vi).toNat)
        case atStart => exact ⟨0, Nat.zero_le _, rfl, HR.out⟩
        case round =>
          obtain ⟨q, hqm, rfl, hq⟩ := hrel
          by_cases hql : q < R.length
          · obtain ⟨g, gc, e, _, _, d0, d1, d2, d3⟩ := tok_at hq.out.2 hql
            injection e with e1 e2 e3
            subst e1
            clear e2 e3
            have hno := Hno.out _ (List.getElem_mem hql)
            obtain ⟨t, ht⟩ : ∃ t, R[q] = t := ⟨_, rfl⟩
            rw [ht] at d0 d1 d2 d3 hno
            obtain ⟨t0, t1, t2, t3⟩ := t
            simp only at d0 d1 d2 d3 hno
            have hbA : Below wr.heap.size wr (wr.alloc (.cells #[.int .i64 t0, .int .i64 t1, .int .i64 t2, .int .i64 t3] 32)) := ((Only.refl [] wr).alloc _).below
            have hSA := hq.out.1.below' hbA
            have Hg := hide (hSA.get t0)
            rw [hno, Ha2.out] at Hg
            simp only [Option.getD_none, Option.isSome_none, noTk, Tk.val] at Hg
            have HQ := hide (And.intro hSA (owns_below hq.out.2 hbA))
            have i3 : (0 : Int) ≤ (q : Int) := by omega
            have i4 : (q : Int) < (R.length : Int) := by omega
            clear hq hSA hbA hno ht
            go_wp2_with fail
            (with_reducible refine Hg.out.mono ?_)
            rintro e Y ⟨rfl, hb2⟩
            have hbB : Below Y.heap.size Y (Y.alloc (.cells #[.int .i64 0, .int .i64 0, .int .i64 0, .int .i64 0] 32)) := ((Only.refl [] Y).alloc _).below
            have HN : Hid (ASt w (Y.alloc (.cells #[.int .i64 0, .int .i64 0, .int .i64 0, .int .i64 0] 32)) A2 (remT T last oa) last j ∧ (Y.alloc (.cells #[.int .i64 0, .int .i64 0, .int .i64 0, .int .i64 0] 32)).ownsRow w.heap.size 32 4 (.slice (some ⟨g, 0, none⟩) R.length rc) R.length (tflat R)) := hide ⟨(HQ.out.1.below' hb2).below' hbB, owns_below (owns_below HQ.out.2 hb2) hbB⟩
            clear HQ Hg hb2 hbB d0 d1 d2 d3
            go_wp2
            go_roundw
            case rel => exact ⟨q + 1, by omega, by go_num, HN.out⟩
            case measure => simp [intOf]; omega
          · obtain rfl : q = R.length := by omega
            have HF : Hid (AnyA w wr A1.a (j + 1)) := hide ⟨A2, _, last, Ha2.out, hq.out.1.up (by omega)⟩
            clear hq HR
            go_wp2
            go_roundw
            case rel => exact ⟨j + 1, by omega, by go_num, HF⟩
            case measure => simp [intOf]; omega
    · obtain rfl : j = l.length := by omega
      obtain ⟨A1, T, last, hA1, hS⟩ := hq.out
      subst hA1
      have hTl := hS.len
      have hle := hS.le
      have hl0 := hS.tree.lst
      have Hk := hide (hS.kids 0)
      have hkl := ofG_len kG T 0
      have Hsub0 : Hid (∀ x ∈ ofG kG T 0, x ∈ (ofG kG T 0).drop 0) := hide fun x hx => by simpa using hx
      have HS1 := hide hS
      clear hq hS
      go_wp2_with fail
      (with_reducible refine Hk.out.mono ?_)
      rintro e X ⟨ka, kc, rfl, hrow, hb1⟩
      obtain ⟨K, hK⟩ : ∃ K, ofG kG T 0 = K := ⟨_, rfl⟩
      rw [hK] at hrow hkl Hsub0 ⊢
      have HR : Hid (∃ A2 T2, A2.a = A1.a ∧ ASt w X A2 T2 last l.length ∧ (∀ x ∈ ofG kG T2 0, x ∈ K.drop 0) ∧ X.ownsRow w.heap.size 3 1 (.slice ka K.length kc) K.length (K.map (.int .i64))) := hide ⟨A1, T, rfl, HS1.out.below' hb1, by rw [hK]; exact Hsub0.out, owns_base hrow HS1.out.below.size⟩
      clear Hk HS1 Hsub0 hrow hb1 hK
      go_wp2_with fail
      go_loopw [156] (fun vi wz => ∃ q : Nat, q ≤ K.length ∧ vi = .int .i64 q ∧ Hid (∃ A2 T2, A2.a = A1.a ∧ ASt w wz A2 T2 last l.length ∧ (∀ x ∈ ofG kG T2 0, x ∈ K.drop q) ∧ wz.ownsRow w.heap.size 3 1 (.slice ka K.length kc) K.length (K.map (.int .i64)))) (fun vi _ => K.length - (intOf vi).toNat)
      case atStart => exact ⟨0, Nat.zero_le _, rfl, HR.out⟩
      case round =>
        clear HR
        obtain ⟨q, hqm, rfl, hq⟩ := hrel
        obtain ⟨A2, T2, hA2, hS2, hsub, hrow⟩ := hq.out
        by_cases hql : q < K.length
        · obtain ⟨bk, ko, kcap, e, d0⟩ := nis_at (NIs.of_row (by omega) hrow) hql
          injection e with e1 e2 e3
          subst e1
          clear e2 e3
          have hdr : K.drop q = K[q] :: K.drop (q + 1) := List.drop_eq_getElem_cons hql
          obtain ⟨kz, hkz⟩ : ∃ kz, K[q] = kz := ⟨_, rfl⟩
          rw [hkz] at d0 hdr
          have Hrem := hide (hS2.rem kz)
          rw [hA2] at Hrem
          have hsub2 : ∀ x ∈ ofG kG (remT T2 last kz) 0, x ∈ K.drop (q + 1) := fun x hx => by
            by_cases hkk : kz ∈ ofG kG T2 0
            · obtain ⟨h1, h2⟩ := hS2.tree.kid_gone hkk x hx
              have := hsub x h1
              rw [hdr] at this
              rcases List.mem_cons.1 this with r | r
              · exact absurd r h2
              · exact r
            · obtain ⟨t, ht, h0, hp, e⟩ := kid_mem.1 hx
              have h1 := kid_mem.2 ⟨t, (rem_mem.1 ht).1, h0, hp, e⟩
              have := hsub x h1
              rw [hdr] at this
              rcases List.mem_cons.1 this with r | r
              · rw [r] at h1
                exact absurd h1 hkk
              · exact r
          have HQ := hide (And.intro hS2 (And.intro hsub2 hrow))
          have Ha := hide hA2
          have i3 : (0 : Int) ≤ (q : Int) := by omega
          have i4 : (q : Int) < (K.length : Int) := by omega
          clear hq hA2 hS2 hsub hrow hdr hsub2 hkz
          go_wp2_with fail
          (with_reducible refine Hrem.out.mono ?_)
          rintro e Y ⟨vr, R, A3, rfl, _, _, _, hto, hS3⟩
          have HN : Hid (∃ A2 T2, A2.a = A1.a ∧ ASt w Y A2 T2 last l.length ∧ (∀ x ∈ ofG kG T2 0, x ∈ K.drop (q + 1)) ∧ Y.ownsRow w.heap.size 3 1 (.slice (some ⟨bk, ko, none⟩) K.length kc) K.length (K.map (.int .i64))) := hide ⟨A3, _, hto.a.trans Ha.out, hS3, HQ.out.2.1, owns_only HQ.out.2.2 hto.only fun k hk q => not_map_int HQ.out.1.ar.r (Ar.mem_all.1 q) HQ.out.2.2 hk⟩
          clear hto hS3 HQ Hrem d0
          go_wp2
          go_roundw
          case rel => exact ⟨q + 1, by omega, by go_num, HN.out⟩
          case measure => simp [intOf]; omega
        · obtain rfl : q = K.length := by omega
          have hnk : ofG kG T2 0 = [] := List.eq_nil_iff_forall_not_mem.2 fun x hx => by
            have := hsub x hx
            rw [List.drop_length] at this
            cases this
          have hone := hS2.tree.alone hnk
          have Hl := hide hS2.lenn
          rw [hA2, hone] at Hl
          have HS2 := hide hS2
          have Ha := hide hA2
          have Hnk := hide hnk
          clear hq hA2 hS2 hsub hrow hnk hone
          go_wp2_with fail
          (with_reducible refine Hl.out.mono ?_)
          rintro e Y ⟨rfl, hb1⟩
          have hS3 := HS2.out.below' hb1
          have Hk := hide (hS3.kids 0)
          rw [Ha.out, Hnk.out] at Hk
          have HS3 := hide hS3
          clear Hl HS2 hb1 hS3
          go_wp2_with fail
          (with_reducible refine Hk.out.mono ?_)
          rintro e Y2 ⟨wa, wc, rfl, _, hb2⟩
          have HB := hide (HS3.out.below' hb2).below
          simp only [List.length_nil]
          clear Hk HS3 hb2
          go_wp2_with fail
          (with_reducible refine (known21 _).mono ?_)
          rintro e Y3 ⟨rfl, hb3⟩
          go_wp2
          go_ret
          exact ⟨rfl, HB.out.trans (hb3.mono HB.out.size)⟩
end Go.Proofs.Ytmcajoccfbebiaa
