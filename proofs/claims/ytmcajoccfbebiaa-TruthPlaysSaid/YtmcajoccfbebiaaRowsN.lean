/- The contracts of witanref26: Rows. -/
import Derived.Test.YtmcajoccfbebiaaCmpN
import Derived.RegionTactic
import Derived.BigRegion
namespace Go.Proofs.Ytmcajoccfbebiaa
open Go Go.RowKit Go.MapKept Go.Sort

theorem NIs.only0 {w w' : World} {x : Value} {l : List Int} (h : NIs w x l) (ho : Only [] w w') : NIs w' x l := h.below ho.below

theorem cmp_gt {p q : Int} (h : q < p) : Lib.compareInt p q = 1 := by
  unfold Lib.compareInt
  rw [if_neg (by omega), if_pos h]

set_option maxHeartbeats 1000000 in
theorem rows_any (x y : Value) (l m : List Int) (w : World) (hx : NIs w x l) (hy : NIs w y m) :
    Calls Try.prog 35 #[x, y] w fun e w' => e = .returned (.int .i64 (cmpL l m)) ∧ Below w.heap.size w w' := by
  obtain ⟨xa, xc, rfl⟩ := hx.form
  obtain ⟨ya, yc, rfl⟩ := hy.form
  have hlx := hx.1
  have hly := hy.1
  have Hx := hide hx
  have Hy := hide hy
  clear hx hy
  go_enter Try.func35, Try.ntmps35
  go_wp2
  go_loopw [5] (fun i wr => ∃ k : Nat, k ≤ l.length ∧ k ≤ m.length ∧ i = .int .i64 k ∧ Hid (cmpL l m = cmpL (l.drop k) (m.drop k)) ∧ Hid (Only [] w wr)) (fun i _ => l.length - (intOf i).toNat)
  case atStart => exact ⟨0, Nat.zero_le _, Nat.zero_le _, rfl, rfl, Only.refl _ _⟩
  case round =>
    obtain ⟨k, hk1, hk2, rfl, hq, ho⟩ := hrel
    by_cases h1 : k < l.length
    · by_cases h2 : k < m.length
      · obtain ⟨b, o, cp, e, d0⟩ := (Hx.out.only0 ho.out).at h1
        injection e with e1 e2 e3
        subst e1 e3
        clear e2
        obtain ⟨b', o', cp', e, d1⟩ := (Hy.out.only0 ho.out).at h2
        injection e with e1 e2 e3
        subst e1 e3
        clear e2
        have hstep := cmpL_step h1 h2
        obtain ⟨p, hp⟩ : ∃ p, l[k] = p := ⟨_, rfl⟩
        obtain ⟨q, hqe⟩ : ∃ q, m[k] = q := ⟨_, rfl⟩
        rw [hp] at d0 hstep
        rw [hqe] at d1 hstep
        have Hstep := hide hstep
        clear hp hqe hstep
        have i1 : (k : Int) < (l.length : Int) := by omega
        have i2 : (k : Int) < (m.length : Int) := by omega
        rcases (by omega : p < q ∨ q < p ∨ p = q) with hc | hc | rfl
        · have ho1 := hide ho.out.drew
          go_wp2_with fail
          go_region
          all_goals
            go_wp2
            go_ret
            exact ⟨by rw [hq.out, Hstep.out]; simp [Lib.compareInt, hc], ho1.out.below⟩
        · have ho1 := hide ho.out.drew.drew
          have hn : ¬ p < q := by omega
          go_wp2_with fail
          go_region
          all_goals go_wp2_with fail
          go_region
          all_goals
            go_wp2
            go_ret
            exact ⟨by rw [hq.out, Hstep.out, cmp_gt hc]; rfl, ho1.out.below⟩
        · have ho1 := hide ho.out.drew.drew
          go_wp2_with fail
          go_region
          all_goals go_wp2_with fail
          go_region
          all_goals
            go_wp2
            go_roundw
            case rel => exact ⟨k + 1, by omega, by omega, by go_num, (show cmpL l m = _ by rw [hq.out, Hstep.out]; simp [Lib.compareInt]), ho1.out⟩
            case measure => simp [intOf]; omega
      · obtain rfl : k = m.length := by omega
        go_wp2
        go_ret
        refine ⟨?_, ho.out.below⟩
        rw [hq.out, List.drop_length, List.drop_eq_getElem_cons h1]
        rfl
    · obtain rfl : k = l.length := by omega
      by_cases h2 : l.length < m.length
      · go_wp2
        go_ret
        refine ⟨?_, ho.out.below⟩
        rw [hq.out, List.drop_length, List.drop_eq_getElem_cons h2]
        rfl
      · have he : l.length = m.length := by omega
        have He := hide he
        clear he
        have h3 : ¬ m.length < l.length := by omega
        go_wp2
        go_ret
        refine ⟨?_, ho.out.below⟩
        have : m.drop l.length = [] := by rw [He.out, List.drop_length]
        rw [hq.out, List.drop_length, this]
        rfl
end Go.Proofs.Ytmcajoccfbebiaa
