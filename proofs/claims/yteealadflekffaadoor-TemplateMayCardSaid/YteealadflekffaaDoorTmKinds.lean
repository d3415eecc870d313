/- TemplateKinds: the walk. -/
import Derived.Test.YteealadflekffaaDoorTm12
namespace Go.Proofs.YteealadflekffaaDoor
open Go Go.RowKit Go.Lib

theorem knB_out {k : Int} (h : ¬ (1 ≤ k ∧ k ≤ 5)) : knB k = ⟨#[]⟩ := by
  unfold knB
  rw [if_neg (by omega), if_neg (by omega), if_neg (by omega), if_neg (by omega), if_neg (by omega)]
theorem kindB_knB {k : Int} (h1 : 1 ≤ k) (h5 : k ≤ 5) : kindB (knB k) = (k, true) := by
  have hk : k = 1 ∨ k = 2 ∨ k = 3 ∨ k = 4 ∨ k = 5 := by omega
  rcases hk with rfl | rfl | rfl | rfl | rfl <;> decide
theorem kindB_empty : kindB ⟨#[]⟩ = (0, false) := by decide
theorem knB_inj {a b : Int} (h1 : 1 ≤ b) (h5 : b ≤ 5) (h : knB a = knB b) : a = b := by
  by_cases ha : 1 ≤ a ∧ a ≤ 5
  · have := kindB_knB ha.1 ha.2
    rw [h, kindB_knB h1 h5] at this
    cases this
    rfl
  · rw [knB_out ha] at h
    have := kindB_knB h1 h5
    rw [← h, kindB_empty] at this
    cases this
theorem kindB_back (s : ByteArray) : ((kindB s).2 = true ∧ knB (kindB s).1 = s) ∨ kindB s = (0, false) := by
  unfold kindB
  by_cases h1 : s = kInt
  · rw [if_pos h1, h1]; exact .inl ⟨rfl, by decide⟩
  · rw [if_neg h1]
    by_cases h2 : s = kDec
    · rw [if_pos h2, h2]; exact .inl ⟨rfl, by decide⟩
    · rw [if_neg h2]
      by_cases h3 : s = kStr
      · rw [if_pos h3, h3]; exact .inl ⟨rfl, by decide⟩
      · rw [if_neg h3]
        by_cases h4 : s = kBool
        · rw [if_pos h4, h4]; exact .inl ⟨rfl, by decide⟩
        · rw [if_neg h4]
          by_cases h5 : s = kSym
          · rw [if_pos h5, h5]; exact .inl ⟨rfl, by decide⟩
          · rw [if_neg h5]; exact .inr rfl

set_option maxRecDepth 100000 in
set_option maxHeartbeats 4000000 in
theorem kinds_walk (kind other : Int) (name : ByteArray) (hs : name.size ≤ 9223372036854775807) (w : World) (hT : Tab w) :
    Calls Tryd.prog 6 #[.int .u8 kind, .int .u8 other, .string name] w fun e w' => e = .returned (.bool true) ∧ Below w.heap.size w w' := by
  by_cases h100 : 100 < name.size
  · have d : (100 : Int) < name.size := by omega
    have Hk := hide (known_any w hT)
    clear h100 hT
    go_enter Tryd.func6, Tryd.ntmps6
    go_wp2_with fail
    (with_reducible refine Hk.out.mono ?_)
    rintro e w1 ⟨rfl, hb1⟩
    go_wp2
    go_ret
    exact ⟨rfl, hb1⟩
  · have d : (name.size : Int) ≤ 100 := by omega
    have d' : decide ((100 : Int) < name.size) = false := by simp; omega
    have HT := hide hT
    have Hk1 := hide fun V (hV : Below w.heap.size w V) => kind_any name V (hT.below hV)
    have Hkn := hide fun V (hV : Below w.heap.size w V) => known_any V (hT.below hV)
    have Hn2 := hide fun V (hV : Below w.heap.size w V) => kindName_any (kindB name).1 V (hT.below hV)
    have Hn1 := hide fun V (hV : Below w.heap.size w V) => kindName_any other V (hT.below hV)
    have hn0 := kindName_any kind w hT
    clear h100 hT
    -- what stands behind the first half
    have hback := kindB_back name
    obtain ⟨kn, hkn⟩ : ∃ kn, kindB name = kn := ⟨_, rfl⟩
    rw [hkn] at Hk1 Hn2 hback
    clear hkn
    obtain ⟨kn1, kn2⟩ := kn
    simp only [Prod.mk.injEq] at hback Hk1 Hn2
    by_cases hin : 1 ≤ kind ∧ kind ≤ 5
    · obtain ⟨h1, h5⟩ := hin
      have Hk0 := hide fun V (hV : Below w.heap.size w V) => kind_any (knB kind) V (HT.out.below hV)
      rw [kindB_knB h1 h5] at Hk0
      have hoth : ((knB other).toList == (knB kind).toList) = (other == kind) := by
        rw [beqS]
        by_cases e : other = kind
        · subst e; simp
        · rw [decide_eq_false fun h => e (knB_inj h1 h5 h)]
          simpa using e
      obtain ⟨s, hs1⟩ : ∃ s, knB kind = s := ⟨_, rfl⟩
      obtain ⟨o, ho1⟩ : ∃ o, knB other = o := ⟨_, rfl⟩
      rw [hs1] at hn0 Hk0 hoth
      rw [ho1] at Hn1 hoth
      have Hn0 := hide hn0
      clear hn0 hs1 ho1
      obtain ⟨q, hq⟩ : ∃ q, (other == kind) = q := ⟨_, rfl⟩
      rw [hq] at hoth
      have hqq : (q != q) = false := by simp
      rcases hback with ⟨rfl, hb⟩ | ⟨rfl, rfl⟩
      · rw [hb] at Hn2
        clear hb
        go_enter Tryd.func6, Tryd.ntmps6
        go_wp2_with fail
        (with_reducible refine Hn0.out.mono ?_)
        rintro e V1 ⟨rfl, hb1⟩
        have B1 := hide hb1
        clear hb1
        go_wp2_with fail
        (with_reducible refine (Hk0.out V1 B1.out).mono ?_)
        rintro e V2 ⟨rfl, hb2⟩
        have B2 := hide (B1.out.trans (hb2.mono B1.out.size))
        clear hb2
        go_wp2_with fail
        (with_reducible refine (Hn1.out V2 B2.out).mono ?_)
        rintro e V3 ⟨rfl, hb3⟩
        have B3 := hide (B2.out.trans (hb3.mono B2.out.size))
        clear hb3
        go_wp2_with fail
        (with_reducible refine (Hk1.out V3 B3.out).mono ?_)
        rintro e V4 ⟨rfl, hb4⟩
        have B4 := hide (B3.out.trans (hb4.mono B3.out.size))
        clear hb4
        go_wp2_with fail
        (with_reducible refine (Hn2.out V4 B4.out).mono ?_)
        rintro e V5 ⟨rfl, hb5⟩
        have B5 := hide (B4.out.trans (hb5.mono B4.out.size))
        clear hb5
        go_wp2_with fail
        (with_reducible refine (Hkn.out V5 B5.out).mono ?_)
        rintro e V6 ⟨rfl, hb6⟩
        have B6 := hide (B5.out.trans (hb6.mono B5.out.size))
        clear hb6
        go_wp2
        go_ret
        exact ⟨rfl, B6.out⟩
      · go_enter Tryd.func6, Tryd.ntmps6
        go_wp2_with fail
        (with_reducible refine Hn0.out.mono ?_)
        rintro e V1 ⟨rfl, hb1⟩
        have B1 := hide hb1
        clear hb1
        go_wp2_with fail
        (with_reducible refine (Hk0.out V1 B1.out).mono ?_)
        rintro e V2 ⟨rfl, hb2⟩
        have B2 := hide (B1.out.trans (hb2.mono B1.out.size))
        clear hb2
        go_wp2_with fail
        (with_reducible refine (Hn1.out V2 B2.out).mono ?_)
        rintro e V3 ⟨rfl, hb3⟩
        have B3 := hide (B2.out.trans (hb3.mono B2.out.size))
        clear hb3
        go_wp2_with fail
        (with_reducible refine (Hk1.out V3 B3.out).mono ?_)
        rintro e V4 ⟨rfl, hb4⟩
        have B4 := hide (B3.out.trans (hb4.mono B3.out.size))
        clear hb4
        go_wp2_with fail
        (with_reducible refine (Hkn.out V4 B4.out).mono ?_)
        rintro e V6 ⟨rfl, hb6⟩
        have B6 := hide (B4.out.trans (hb6.mono B4.out.size))
        clear hb6
        go_wp2
        go_ret
        exact ⟨rfl, B6.out⟩
    · have Hk0 := hide fun V (hV : Below w.heap.size w V) => kind_any ⟨#[]⟩ V (HT.out.below hV)
      rw [kindB_empty] at Hk0
      rw [knB_out hin] at hn0
      have Hn0 := hide hn0
      have hcase : (kind < 1) ∨ (1 ≤ kind ∧ 5 < kind) := by omega
      clear hn0 hin
      rcases hcase with hlo | ⟨hge, hhi⟩
      · have e1 : decide (1 ≤ kind) = false := by simp; omega
        rcases hback with ⟨rfl, hb⟩ | ⟨rfl, rfl⟩
        · rw [hb] at Hn2
          clear hb
          go_enter Tryd.func6, Tryd.ntmps6
          go_wp2_with fail
          (with_reducible refine Hn0.out.mono ?_)
          rintro e V1 ⟨rfl, hb1⟩
          have B1 := hide hb1
          clear hb1
          go_wp2_with fail
          (with_reducible refine (Hk0.out V1 B1.out).mono ?_)
          rintro e V2 ⟨rfl, hb2⟩
          have B2 := hide (B1.out.trans (hb2.mono B1.out.size))
          clear hb2
          go_wp2_with fail
          (with_reducible refine (Hk1.out V2 B2.out).mono ?_)
          rintro e V4 ⟨rfl, hb4⟩
          have B4 := hide (B2.out.trans (hb4.mono B2.out.size))
          clear hb4
          go_wp2_with fail
          (with_reducible refine (Hn2.out V4 B4.out).mono ?_)
          rintro e V5 ⟨rfl, hb5⟩
          have B5 := hide (B4.out.trans (hb5.mono B4.out.size))
          clear hb5
          go_wp2_with fail
          (with_reducible refine (Hkn.out V5 B5.out).mono ?_)
          rintro e V6 ⟨rfl, hb6⟩
          have B6 := hide (B5.out.trans (hb6.mono B5.out.size))
          clear hb6
          go_wp2
          go_ret
          exact ⟨rfl, B6.out⟩
        · go_enter Tryd.func6, Tryd.ntmps6
          go_wp2_with fail
          (with_reducible refine Hn0.out.mono ?_)
          rintro e V1 ⟨rfl, hb1⟩
          have B1 := hide hb1
          clear hb1
          go_wp2_with fail
          (with_reducible refine (Hk0.out V1 B1.out).mono ?_)
          rintro e V2 ⟨rfl, hb2⟩
          have B2 := hide (B1.out.trans (hb2.mono B1.out.size))
          clear hb2
          go_wp2_with fail
          (with_reducible refine (Hk1.out V2 B2.out).mono ?_)
          rintro e V4 ⟨rfl, hb4⟩
          have B4 := hide (B2.out.trans (hb4.mono B2.out.size))
          clear hb4
          go_wp2_with fail
          (with_reducible refine (Hkn.out V4 B4.out).mono ?_)
          rintro e V6 ⟨rfl, hb6⟩
          have B6 := hide (B4.out.trans (hb6.mono B4.out.size))
          clear hb6
          go_wp2
          go_ret
          exact ⟨rfl, B6.out⟩
      · have e2 : decide (kind ≤ 5) = false := by simp; omega
        rcases hback with ⟨rfl, hb⟩ | ⟨rfl, rfl⟩
        · rw [hb] at Hn2
          clear hb
          go_enter Tryd.func6, Tryd.ntmps6
          go_wp2_with fail
          (with_reducible refine Hn0.out.mono ?_)
          rintro e V1 ⟨rfl, hb1⟩
          have B1 := hide hb1
          clear hb1
          go_wp2_with fail
          (with_reducible refine (Hk0.out V1 B1.out).mono ?_)
          rintro e V2 ⟨rfl, hb2⟩
          have B2 := hide (B1.out.trans (hb2.mono B1.out.size))
          clear hb2
          go_wp2_with fail
          (with_reducible refine (Hk1.out V2 B2.out).mono ?_)
          rintro e V4 ⟨rfl, hb4⟩
          have B4 := hide (B2.out.trans (hb4.mono B2.out.size))
          clear hb4
          go_wp2_with fail
          (with_reducible refine (Hn2.out V4 B4.out).mono ?_)
          rintro e V5 ⟨rfl, hb5⟩
          have B5 := hide (B4.out.trans (hb5.mono B4.out.size))
          clear hb5
          go_wp2_with fail
          (with_reducible refine (Hkn.out V5 B5.out).mono ?_)
          rintro e V6 ⟨rfl, hb6⟩
          have B6 := hide (B5.out.trans (hb6.mono B5.out.size))
          clear hb6
          go_wp2
          go_ret
          exact ⟨rfl, B6.out⟩
        · go_enter Tryd.func6, Tryd.ntmps6
          go_wp2_with fail
          (with_reducible refine Hn0.out.mono ?_)
          rintro e V1 ⟨rfl, hb1⟩
          have B1 := hide hb1
          clear hb1
          go_wp2_with fail
          (with_reducible refine (Hk0.out V1 B1.out).mono ?_)
          rintro e V2 ⟨rfl, hb2⟩
          have B2 := hide (B1.out.trans (hb2.mono B1.out.size))
          clear hb2
          go_wp2_with fail
          (with_reducible refine (Hk1.out V2 B2.out).mono ?_)
          rintro e V4 ⟨rfl, hb4⟩
          have B4 := hide (B2.out.trans (hb4.mono B2.out.size))
          clear hb4
          go_wp2_with fail
          (with_reducible refine (Hkn.out V4 B4.out).mono ?_)
          rintro e V6 ⟨rfl, hb6⟩
          have B6 := hide (B4.out.trans (hb6.mono B4.out.size))
          clear hb6
          go_wp2
          go_ret
          exact ⟨rfl, B6.out⟩
end Go.Proofs.YteealadflekffaaDoor
