/- TemplateFits: the walk, whatever comes. -/
import Derived.Test.YteealadflekffaaDoorTmFits
namespace Go.Proofs.YteealadflekffaaDoor
open Go Go.RowKit Go.Lib

theorem one_tpl {w : World} {t : Tpl} {b : Nat} (h : w.heap[b]? = some (.cells #[.string t.name, .slice t.a t.s.length t.c] 26 (0, 0))) (ht : TplIs w t) : TplsIs w (some ⟨b, 0, none⟩) 1 [t] := by
  refine ⟨⟨by simp, by decide, .inl ⟨b, 0, rfl, fun i hi j v hv => ?_⟩⟩, fun u hu => by rw [List.mem_singleton.1 hu]; exact ht⟩
  obtain rfl : i = 0 := by simp at hi; omega
  obtain ⟨z0, z1⟩ := cell2 h
  rcases j with _ | _ | j
  · simp only [Tpl.cells, List.getElem_cons_zero, List.getElem?_cons_zero, Option.some.injEq] at hv
    subst hv
    exact z0
  · simp only [Tpl.cells, Tpl.x, List.getElem_cons_zero, List.getElem?_cons_succ, List.getElem?_cons_zero, Option.some.injEq] at hv
    subst hv
    exact z1
  · simp [Tpl.cells] at hv

set_option maxRecDepth 100000 in
set_option maxHeartbeats 4000000 in
theorem fits_walk (a : Option Addr) (c : Nat) (L : List Tpl) (t : Int) (va : Option Addr) (vc : Nat) (s : List Vl) (m : Tpl) (w : World) (hT : Tab w)
    (h : TplsIs w a c L) (hnil : a = none → L.length = 0 ∧ c = 0) (hv : VlsIs w va vc s) (hm : TplIs w m) :
    Calls Tryd.prog 3 #[.slice a L.length c, .int .i64 t, .slice va s.length vc, .agg #[.string m.name, .slice m.a m.s.length m.c]] w fun e w' => e = .returned (.bool true) ∧ Below w.heap.size w w' := by
  by_cases hok : greatB L = false ∧ greatB [m] = false ∧ s.length ≤ 30
  · exact fits_mid a c L t va vc s m.name m.s m.a m.c w hT h hnil hv hm hok.1 hok.2.1 hok.2.2
  · obtain ⟨nm, sm, ma, mc⟩ := m
    simp only at hm hok ⊢
    have x0 := heap_new w (.cells #[.string nm, .slice ma sm.length mc] 26)
    have hb0 := (Below.refl w.heap.size w).alloc (Nat.le_refl _) (.cells #[.string nm, .slice ma sm.length mc] 26)
    have G1 := hide (great_any a c L (w.alloc (.cells #[.string nm, .slice ma sm.length mc] 26)) (h.below hb0))
    have x1 := heap_new (w.alloc (.cells #[.string nm, .slice ma sm.length mc] 26)) (.cells #[.string nm, .slice ma sm.length mc] 26)
    rw [World.size_alloc] at x1
    have hb1 := hb0.alloc (by simp) (.cells #[.string nm, .slice ma sm.length mc] 26)
    have g2 := great_any _ _ _ _ (one_tpl (t := ⟨nm, sm, ma, mc⟩) x1 (hm.below hb1))
    rw [show ([(⟨nm, sm, ma, mc⟩ : Tpl)].length) = 1 from rfl] at g2
    have G2 := hide g2
    have K0 := hide (known_any _ (hT.below hb0))
    have K1 := hide (known_any _ (hT.below hb1))
    have B0 := hide hb0
    have B1 := hide hb1
    have hvl := hv.1.len
    clear h hv hm hb0 hb1 x0 x1 g2 hT
    obtain ⟨q1, hq1⟩ : ∃ q, greatB L = q := ⟨_, rfl⟩
    obtain ⟨q2, hq2⟩ : ∃ q, greatB [⟨nm, sm, ma, mc⟩] = q := ⟨_, rfl⟩
    rw [hq1] at G1 hok
    rw [hq2] at G2 hok
    clear hq1 hq2
    cases q1
    · cases q2
      · have hs : 30 < s.length := by
          simp only [true_and] at hok
          omega
        have ds : (30 : Int) < s.length := by omega
        clear hs hok
        go_enter Tryd.func3, Tryd.ntmps3
        go_wp2_with fail
        (with_reducible refine G1.out.mono ?_)
        rintro e U ⟨rfl, rfl⟩
        go_wp2_with fail
        (with_reducible refine G2.out.mono ?_)
        rintro e U ⟨rfl, rfl⟩
        go_wp2_with fail
        (with_reducible refine K1.out.mono ?_)
        rintro e U1 ⟨rfl, hu1⟩
        have R := hide (B1.out.trans (hu1.mono B1.out.size))
        clear hu1
        go_wp2
        go_ret
        exact ⟨rfl, R.out⟩
      · clear hok
        go_enter Tryd.func3, Tryd.ntmps3
        go_wp2_with fail
        (with_reducible refine G1.out.mono ?_)
        rintro e U ⟨rfl, rfl⟩
        go_wp2_with fail
        (with_reducible refine G2.out.mono ?_)
        rintro e U ⟨rfl, rfl⟩
        go_wp2_with fail
        (with_reducible refine K1.out.mono ?_)
        rintro e U1 ⟨rfl, hu1⟩
        have R := hide (B1.out.trans (hu1.mono B1.out.size))
        clear hu1
        go_wp2
        go_ret
        exact ⟨rfl, R.out⟩
    · clear hok
      go_enter Tryd.func3, Tryd.ntmps3
      go_wp2_with fail
      (with_reducible refine G1.out.mono ?_)
      rintro e U ⟨rfl, rfl⟩
      go_wp2_with fail
      (with_reducible refine K0.out.mono ?_)
      rintro e U1 ⟨rfl, hu1⟩
      have R := hide (B0.out.trans (hu1.mono B0.out.size))
      clear hu1
      go_wp2
      go_ret
      exact ⟨rfl, R.out⟩
end Go.Proofs.YteealadflekffaaDoor
