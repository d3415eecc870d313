/- Tokens: built. -/
import Derived.Test.YtmcajoccfbebiaaTkA
namespace Go.Proofs.Ytmcajoccfbebiaa
open Go Go.RowKit Go.MapKept Go.Sort

theorem ASt.new (w : World) : Calls Try.prog 18 #[] w fun e w' => ∃ A : Ar, e = .returned (.pointer (some ⟨A.a, 0, none⟩)) ∧ ASt w w' A [zeroTk] 0 0 := by
  refine (tnew_any w).mono ?_
  rintro e w' ⟨A, rfl, hA, hb, hf⟩
  exact ⟨A, rfl, hA, tree_one, by simp, by simp, hb, hf⟩
/-- Some arena, at this pointer. -/
def SomeA (w0 wr : World) (a : Nat) (s : List Tk × Int) (n : Nat) : Prop := ∃ A : Ar, A.a = a ∧ ASt w0 wr A s.1 s.2 n

set_option maxRecDepth 100000 in
set_option maxHeartbeats 4000000 in
theorem built_any (v : Value) (l : List OpT) (w : World) (hv : OpsT w v l) (hl : l.length ≤ 60) :
    Calls Try.prog 12 #[v] w fun e w' => ∃ a : Nat, e = .returned (.tuple #[.pointer (some ⟨a, 0, none⟩), .int .i64 (runT l).2]) ∧ SomeA w w' a (runT l) l.length := by
  obtain ⟨va, vc, rfl⟩ := hv.form
  have Hv := hide hv
  clear hv
  go_enter Try.func12, Try.ntmps12
  go_wp2_with fail
  (with_reducible refine (ASt.new w).mono ?_)
  rintro e V ⟨A, rfl, hA⟩
  obtain ⟨a, ha⟩ : ∃ a, A.a = a := ⟨_, rfl⟩
  rw [ha]
  have HS : Hid (SomeA w V a (runT (l.take 0)) 0) := hide ⟨A, ha, hA⟩
  have h0 : (runT (l.take 0)).2 = 0 := rfl
  clear hA ha
  go_wp2_with fail
  go_loopw [5, 13] (fun v5 vi wr => ∃ j : Nat, j ≤ l.length ∧ vi = .int .i64 j ∧ v5 = .int .i64 (runT (l.take j)).2 ∧ Hid (SomeA w wr a (runT (l.take j)) j)) (fun _ vi _ => l.length - (intOf vi).toNat)
  case atStart => exact ⟨0, Nat.zero_le _, rfl, by rw [h0], HS.out⟩
  case round =>
    clear HS h0
    obtain ⟨j, hj, rfl, rfl, hq⟩ := hrel
    by_cases hjl : j < l.length
    · obtain ⟨A1, hA1, hS⟩ := hq.out
      obtain ⟨b, off, cap, e, hat⟩ := (Hv.out.below hS.below).at hjl
      injection e with e1 e2 e3
      subst e1
      clear e2 e3
      obtain ⟨c0, c1, c2, c3⟩ := hat
      have hst := runT_take l hjl
      obtain ⟨o, ho⟩ : ∃ o, l[j] = o := ⟨_, rfl⟩
      rw [ho] at c0 c1 c2 c3 hst
      obtain ⟨ok, oa, ob, oc⟩ := o
      obtain ⟨s, hs⟩ : ∃ s, runT (l.take j) = s := ⟨_, rfl⟩
      rw [hs] at hst hS ⊢
      obtain ⟨Tj, lj⟩ := s
      simp only at c0 c1 c2 c3 hS ⊢
      have hS2 := hS.below' (((Only.refl [] wr).alloc (.cells #[.int .i64 ok, .int .i64 oa, .int .i64 ob, .int .i64 oc] 44)).below)
      have i1 : (0 : Int) ≤ (j : Int) := by omega
      have i2 : (j : Int) < (l.length : Int) := by omega
      have hlj : 0 ≤ lj ∧ lj ≤ 60 := ⟨hS.tree.lst, by have := hS.le; omega⟩
      subst hA1
      by_cases hk : ok = 1
      · subst hk
        have hadd := hS2.add (by omega) oa ob oc
        have Hadd := hide hadd
        have Hst := hide hst
        clear hq hS hS2 hadd hst hs ho
        go_wp2_with fail
        (with_reducible refine Hadd.out.mono ?_)
        rintro e X ⟨id, er, A', rfl, hto, hor⟩
        rcases hor with ⟨rfl, rfl, T', hT', hS'⟩ | ⟨her, rfl, hT', hS'⟩
        · have hmax : max lj (lj + 1) = lj + 1 := by omega
          have HN : Hid ((runT (l.take (j + 1))).2 = lj + 1 ∧ SomeA w X A1.a (runT (l.take (j + 1))) (j + 1)) := hide (by
            rw [Hst.out]
            simp only [stepT, if_pos, hT']
            exact ⟨trivial, A', hto.a, hS'⟩)
          clear hto hS' hT' Hadd Hst
          go_wp2
          go_roundw
          case rel => exact ⟨j + 1, by omega, by go_num, by rw [HN.out.1], HN.out.2⟩
          case measure => simp [intOf]; omega
        · have HN : Hid ((runT (l.take (j + 1))).2 = lj ∧ SomeA w X A1.a (runT (l.take (j + 1))) (j + 1)) := hide (by
            rw [Hst.out]
            simp only [stepT, if_pos, hT']
            exact ⟨trivial, A', hto.a, hS'⟩)
          clear hto hS' hT' Hadd Hst
          go_wp2
          go_roundw
          case rel => exact ⟨j + 1, by omega, by go_num, by rw [HN.out.1], HN.out.2⟩
          case measure => simp [intOf]; omega
      · have hk1 : (ok != 1) = true := by simpa using hk
        have Hrem := hide (hS2.rem oa)
        have HN : Hid (runT (l.take (j + 1)) = (remT Tj lj oa, lj)) := hide (by rw [hst]; simp only [stepT, if_neg hk])
        clear hq hS hS2 hst hs ho hk
        go_wp2_with fail
        (with_reducible refine Hrem.out.mono ?_)
        rintro e X ⟨v, R, A', rfl, _, _, _, hto, hS'⟩
        have HF : Hid (SomeA w X A1.a (runT (l.take (j + 1))) (j + 1)) := hide ⟨A', hto.a, by rw [HN.out]; exact hS'.up (by omega)⟩
        clear hto hS' Hrem
        go_wp2
        go_roundw
        case rel => exact ⟨j + 1, by omega, by go_num, by rw [HN.out], HF⟩
        case measure => simp [intOf]; omega
    · obtain rfl : j = l.length := by omega
      rw [List.take_length] at hq ⊢
      have HF := hq
      clear hq
      go_wp2
      go_ret2
      exact ⟨a, rfl, HF.out⟩
end Go.Proofs.Ytmcajoccfbebiaa
