/- The walk of witanlaw26.OrderAll. -/
import Derived.Test.YteealadflekffabRef26
import Derived.Test.YteealadflekffabArgsL
import Derived.Test.YteealadflekffabKnown26
import Derived.BigQuiet
import Derived.Deep.QuietTactic
namespace Go.Proofs.Yteealadflekffab
open Go Go.RowKit Go.MapKept Go.Sort

theorem ActsIs.sub' {w : World} {b off n cap : Nat} {l : List Ac} (h : ActsIs w (.slice (some ⟨b, off, none⟩) n cap) l) {k : Nat} (hk : k < l.length) (c : Nat) : ActsIs w (.slice (some ⟨b, off + k * 3, none⟩) 1 c) [l[k]] := by
  refine ⟨by simp, .inl ⟨b, off + k * 3, c, rfl, fun i hi => ?_⟩, fun a ha => ?_⟩
  · have : i = 0 := by simpa using hi
    subst this
    obtain ⟨b', off', cap', xa, xc, e, hx, c0, c1, c2⟩ := h.at hk
    cases e
    simp only [Nat.zero_mul, Nat.add_zero, List.getElem_cons_zero]
    exact ⟨c0, by rw [hx]; exact c1, c2⟩
  · simp only [List.mem_singleton] at ha
    subst ha
    exact h.tups _ (List.getElem_mem hk)

theorem ActsIs.of_owns {B : Nat} {w : World} {v : Value} {l : List Ac} (hl : l.length ≤ 1000000) (h : w.ownsRow B 28 3 v l.length (aflat l)) (ht : ∀ a ∈ l, NIs w a.x a.tup) : ActsIs w v l := by
  refine ⟨hl, ?_, ht⟩
  rcases h.2 with ⟨rfl, h0⟩ | ⟨g, cap, cur, rfl, _⟩
  · exact .inr ⟨List.eq_nil_of_length_eq_zero h0, .inl rfl⟩
  · refine .inl ⟨g, 0, cap, rfl, fun i hi => ?_⟩
    obtain ⟨h0, h1, h2⟩ := aflat_get l i hi
    have c := h.cells (g := g) rfl
    have c0 := c _ _ h0
    have c1 := c _ _ h1
    have c2 := c _ _ h2
    simp only [Addr.add_lit] at c0 c1 c2
    refine ⟨c0, ?_, ?_⟩
    · rw [show 0 + i * 3 + 1 = 0 + (i * 3 + 1) by omega]; exact c1
    · rw [show 0 + i * 3 + 2 = 0 + (i * 3 + 2) by omega]; exact c2

/-- How often c is said among the first j. -/
def cnt (l : List Ac) (c : Co) (j : Nat) : Int := ((l.take j).map Ac.co).count c
theorem cnt_step (l : List Ac) (c : Co) {j : Nat} (h : j < l.length) : cnt l c (j + 1) = cnt l c j + (if l[j].co = c then 1 else 0) := by
  unfold cnt
  rw [List.take_succ_eq_append_getElem h, List.map_append, List.count_append, List.map_singleton, List.count_singleton]
  by_cases q : l[j].co = c <;> simp [q]
theorem cnt_bd (l : List Ac) (c : Co) (j : Nat) : 0 ≤ cnt l c j ∧ cnt l c j ≤ j := by
  unfold cnt
  have := List.count_le_length (a := c) (l := (l.take j).map Ac.co)
  have := List.length_take_le j l
  simp at *
  omega
theorem cnt_all (l m : List Ac) (h : (l.map Ac.co).Perm (m.map Ac.co)) (c : Co) : cnt l c l.length = cnt m c m.length := by
  unfold cnt
  rw [List.take_length, List.take_length, h.count_eq c]

theorem below_undrew {w V : World} (h : Below w.drew.heap.size w.drew V) : Below w.heap.size w V := ⟨h.os, h.tape, h.output, h.size, h.block⟩

theorem one_co (a b : Ac) : decide ([a].map Ac.co = [b].map Ac.co) = decide (a.co = b.co) := by simp

set_option maxRecDepth 100000 in
set_option maxHeartbeats 4000000 in
theorem all_walk (s : Int) (v : Value) (l : List ActD) (w : World) (h : ActsD w v l) :
    Calls Try.prog 3 #[.int .u8 s, v] w fun e w' => e = .returned (.bool true) ∧ Below w.heap.size w w' := by
  have Hg := hide (greatD_any v l 60 (by omega) w h)
  obtain ⟨va, vc, rfl⟩ := h.form
  cases hgr : greatD l 60 with
  | true =>
    rw [hgr] at Hg
    clear hgr
    go_enter Try.func3, Try.ntmps3
    go_wp2_with fail
    refine Hg.out.mono ?_
    rintro e w' ⟨rfl, rfl⟩
    go_wp2_with (go_at_call 6; refine (known_walk _).mono ?_; rintro e w' ⟨rfl, hk⟩)
    go_ret
    exact ⟨rfl, hk⟩
  | false =>
    rw [hgr] at Hg
    obtain ⟨hl60, hn20⟩ := greatD_false hgr
    clear hgr
    have hL := h.acts (by omega) (fun g hg => Nat.le_trans (hn20 g hg) (by omega))
    have hcapL := h.1.2
    obtain ⟨L, hLe⟩ : ∃ L, l.map ActD.ac = L := ⟨_, rfl⟩
    rw [hLe] at hL
    have hlen : l.length = L.length := by rw [← hLe]; simp
    rw [hlen] at hL hl60 hcapL ⊢
    have Hsort := hide (sort_any s _ L w hL)
    have HL := hide hL
    have hN : L.length ≤ 60 := by omega
    rw [hlen] at Hg
    clear h hn20 hLe hL hl60 hlen
    go_enter Try.func3, Try.ntmps3
    go_wp2_with fail
    refine Hg.out.mono ?_
    rintro e w' ⟨rfl, rfl⟩
    go_wp2_with fail
    refine Hsort.out.mono ?_
    rintro e w1 ⟨v1, S, rfl, hres, hco, hb1⟩
    have hSL : S.length = L.length := by
      have := (sortC_perm s (L.map Ac.co)).length_eq
      rw [← hco] at this
      simpa using this
    obtain ⟨sa, sc, rfl⟩ := hres.acts.form
    have hcapS := hres.cap
    have HS1 := hide hres.acts
    have HL1 := hide (HL.out.below hb1)
    have HB1 := hide hb1
    have HCO := hide hco
    have HSL := hide hSL
    have hperm := hide (show (S.map Ac.co).Perm (L.map Ac.co) by rw [hco]; exact sortC_perm _ _)
    have hnb : ((S.length : Int) != (L.length : Int)) = false := by rw [hSL]; simp
    have hcl : L.length ≤ vc := hcapL
    have hcs : S.length ≤ sc := hcapS
    have hsl1 : S.length ≤ L.length := by omega
    have hsl2 : L.length ≤ S.length := by omega
    clear hres hb1 hco hSL hcapL hcapS Hsort HL Hg
    go_wp2_with fail
    obtain ⟨i0, hi, hz0, hz1, hz2⟩ := ainfo_parts
    have Hi := hide hi
    have Hz0 := hide hz0
    have Hz1 := hide hz1
    have Hz2 := hide hz2
    clear hi hz0 hz1 hz2
    go_loopw [6, 23] (fun vt vi wr => ∃ (i : Nat) (ta : Option Addr) (tc : Nat), i ≤ L.length ∧ vi = .int .i64 i ∧ vt = .slice ta i tc ∧ Hid (wr.ownsRow w1.heap.size 28 3 (.slice ta i tc) i (aflat (L.reverse.take i))) ∧ Hid (Below w1.heap.size w1 wr)) (fun _ i _ => L.length - (intOf i).toNat)
    case atStart => exact ⟨0, none, 0, Nat.zero_le _, rfl, rfl, World.ownsRow_nil _ _ _ _, Below.refl _ _⟩
    case round =>
      obtain ⟨i, ta, tc, hiL, rfl, rfl, hown, hbr⟩ := hrel
      by_cases hlt : i < L.length
      · have hjl : L.length - 1 - i < L.length := by omega
        have hLr := HL1.out.below hbr.out
        obtain ⟨b, off, cap, xa, xc, e, hx, c0, c1, c2⟩ := hLr.at hjl
        injection e with e1 e2 e3
        subst e1 e3
        clear e2
        have hrev : L.reverse.take (i + 1) = L.reverse.take i ++ [L[L.length - 1 - i]] := by
          rw [List.take_succ_eq_append_getElem (by simpa using hlt)]
          congr 2
          rw [List.getElem_reverse]
        obtain ⟨A, hA⟩ : ∃ A, L[L.length - 1 - i] = A := ⟨_, rfl⟩
        rw [hA] at hx c0 c1 c2 hrev
        obtain ⟨ru, tu, sl, ax⟩ := A
        simp only at hx c0 c1 c2
        subst hx
        have Hrev := hide hrev
        have hwz : w1.heap.size ≤ wr.heap.size := hbr.out.size
        have Hown4 := hide (hown.out.alloc (Obj.cells #[.int .i64 ru, .slice xa tu.length xc, .int .i64 sl] 28))
        have Hnews := hide (World.news_of_block (cs := #[.int .i64 ru, .slice xa tu.length xc, .int .i64 sl]) (t := 28) (fr := (0, 0)) (heap_alloc_new wr (Obj.cells #[.int .i64 ru, .slice xa tu.length xc, .int .i64 sl] 28)))
        have hlen3 : (L.reverse.take i).length = i := by simp; omega
        have Hlen3 := hide hlen3
        clear hLr hA hrev hjl hlen3
        go_wp2_with (at_builtin; refine wpList_append_lies _ rfl _ _ _ rfl w1.heap.size 28 i0 (.agg #[.int .i64 0, .slice none 0 0, .int .i64 0]) 3 40 Try.underlying22 Hi.out Hz0.out Hz1.out Hz2.out rfl (by decide) (.slice ta i tc) i (aflat (L.reverse.take i)) rfl Hown4.out ⟨wr.heap.size, 0, none⟩ 1 1 [.int .i64 ru, .slice xa tu.length xc, .int .i64 sl] rfl rfl Hnews.out (by simp [Value.oneCell']) (by decide) (by unfold maxLen; omega) (by omega) (by simp; omega) (wr.heap.size + 1) (by simp) ?_; intro g cap' w5 hown5 hgrow hat hlt5)
        have hrow0 := row_own hown.out
        have hb5 := hide (show Below w1.heap.size w1 w5 from (hbr.out.alloc hwz _).grown hgrow (by simp; omega) (fun k hk => hrow0 k hk))
        have Hown5 := hide (show w5.ownsRow w1.heap.size 28 3 (.slice (some ⟨g, 0, none⟩) (i + 1) cap') (i + 1) (aflat (L.reverse.take (i + 1))) by rw [Hrev.out, aflat_append]; exact hown5)
        clear hown5 hgrow hat hlt5 hrow0 Hown4 Hnews Hrev Hlen3 hown hbr c0 c1 c2 hwz
        have hiS : i < S.length := by omega
        obtain ⟨sb, so, _, pa, pc, e, _, _, _, _⟩ := HS1.out.at hiS
        injection e with e1 e2 e3
        subst e1
        clear e2 e3
        go_loopw [8, 39] (fun vn vk wr2 => ∃ k : Nat, k ≤ L.length ∧ vk = .int .i64 k ∧ vn = .int .i64 (cnt S S[i].co k - cnt L S[i].co k) ∧ Hid (Below w5.heap.size w5 wr2)) (fun _ k _ => L.length - (intOf k).toNat)
        case atStart => exact ⟨0, Nat.zero_le _, rfl, by simp [cnt], Below.refl _ _⟩
        case round =>
          obtain ⟨k, hkL, rfl, rfl, hbk⟩ := hrel
          by_cases hlk : k < L.length
          · have hkS : k < S.length := by omega
            have hB : Below w1.heap.size w1 wr := hb5.out.trans (hbk.out.mono hb5.out.size)
            have hSd := (HS1.out.below hB).below (Only.drew (Only.refl [] wr)).below
            have hLd := (HL1.out.below hB).below (Only.drew (Only.refl [] wr)).below
            have hs1 := fun c c' => sameAll_any _ _ _ _ _ (hSd.sub' hkS c) (hSd.sub' hiS c')
            have hs2 : ∀ V, Below wr.heap.size wr V → ∀ c c', Calls Try.prog 8 #[_, _] V.drew _ := fun V hV c c' => sameAll_any _ _ _ _ _ (((HL1.out.below hB).below hV).below (Only.drew (Only.refl [] V)).below |>.sub' hlk c) (((HS1.out.below hB).below hV).below (Only.drew (Only.refl [] V)).below |>.sub' hiS c')
            simp only [one_co] at hs1 hs2
            have st1 := cnt_step S S[i].co hkS
            have st2 := cnt_step L S[i].co hlk
            have bd1 := cnt_bd S S[i].co k
            have bd2 := cnt_bd L S[i].co k
            have hc1 : decide (S[k].co = S[i].co) = true ∨ decide (S[k].co = S[i].co) = false := by cases decide (S[k].co = S[i].co) <;> simp
            have hc2 : decide (L[k].co = S[i].co) = true ∨ decide (L[k].co = S[i].co) = false := by cases decide (L[k].co = S[i].co) <;> simp
            have Hs1 := hide hs1
            have Hs2 := hide hs2
            have St1 := hide st1
            have St2 := hide st2
            obtain ⟨n1, hn1⟩ : ∃ n1, cnt S S[i].co k = n1 := ⟨_, rfl⟩
            obtain ⟨n2, hn2⟩ : ∃ n2, cnt L S[i].co k = n2 := ⟨_, rfl⟩
            rw [hn1] at bd1 St1
            rw [hn2] at bd2 St2
            rw [hn1, hn2]
            clear hs1 hs2 hSd hLd st1 st2 hn1 hn2
            have i1 : IntKind.i64.wrap ((k : Int) + 1) = (k : Int) + 1 := IntWalk.i64_in _ (by omega)
            have i2 : IntKind.i64.wrap ((i : Int) + 1) = (i : Int) + 1 := IntWalk.i64_in _ (by omega)
            have i3 : (0 : Int) ≤ (k : Int) := by omega
            have i4 : (0 : Int) ≤ (i : Int) := by omega
            have i5 : (k : Int) ≤ (k : Int) + 1 := by omega
            have i6 : (i : Int) ≤ (i : Int) + 1 := by omega
            have i7 : (k : Int) + 1 ≤ (sc : Int) := by omega
            have i8 : (i : Int) + 1 ≤ (sc : Int) := by omega
            have i9 : (k : Int) + 1 ≤ (vc : Int) := by omega
            have z1 : ¬ sc = k := by omega
            have z2 : ¬ sc = i := by omega
            have z3 : ¬ vc = k := by omega
            have m1 : ((k : Int) + 1).toNat = k + 1 := by omega
            have m2 : ((i : Int) + 1).toNat = i + 1 := by omega
            have HB := hide hB
            clear hB
            rcases hc1 with hc1 | hc1 <;> rcases hc2 with hc2 | hc2
            · have Hc1 := hide hc1
              have Hc2 := hide hc2
              rw [hc1] at Hs1
              rw [hc2] at Hs2
              clear hc1 hc2
              go_wp2_with fail
              go_region_held3 (fun _ => True) (trivial) ((go_at_call 8; have hqq := Hs1.out; with_reducible refine Calls.mono (hqq _ _) ?_; clear hqq; rintro e V ⟨rfl, hbV⟩; have HbV := hide (below_undrew hbV); clear hbV))
              have hs3 := hide (Hs2.out V HbV.out)
              go_wp2_with fail
              go_region_held3 (fun _ => True) (trivial) ((go_at_call 8; have hqq := hs3.out; with_reducible refine Calls.mono (hqq _ _) ?_; clear hqq; rintro e V2 ⟨rfl, hbV⟩; have HbV2 := hide (below_undrew hbV); clear hbV))
              have HbF := hide (hbk.out.trans ((HbV.out.trans (HbV2.out.mono HbV.out.size)).mono hbk.out.size))
              clear hs3 Hs1 Hs2
              go_wp2
              go_roundw
              case rel => exact ⟨k + 1, by omega, by go_num, congrArg (Value.int .i64) (by rw [St1.out, St2.out, if_pos (of_decide_eq_true Hc1.out), if_pos (of_decide_eq_true Hc2.out)]; try omega), HbF.out⟩
              case measure => simp [intOf]; omega
            · have Hc1 := hide hc1
              have Hc2 := hide hc2
              rw [hc1] at Hs1
              rw [hc2] at Hs2
              clear hc1 hc2
              go_wp2_with fail
              go_region_held3 (fun _ => True) (trivial) ((go_at_call 8; have hqq := Hs1.out; with_reducible refine Calls.mono (hqq _ _) ?_; clear hqq; rintro e V ⟨rfl, hbV⟩; have HbV := hide (below_undrew hbV); clear hbV))
              have hs3 := hide (Hs2.out V HbV.out)
              go_wp2_with fail
              go_region_held3 (fun _ => True) (trivial) ((go_at_call 8; have hqq := hs3.out; with_reducible refine Calls.mono (hqq _ _) ?_; clear hqq; rintro e V2 ⟨rfl, hbV⟩; have HbV2 := hide (below_undrew hbV); clear hbV))
              have HbF := hide (hbk.out.trans ((HbV.out.trans (HbV2.out.mono HbV.out.size)).mono hbk.out.size))
              clear hs3 Hs1 Hs2
              go_wp2
              go_roundw
              case rel => exact ⟨k + 1, by omega, by go_num, congrArg (Value.int .i64) (by rw [St1.out, St2.out, if_pos (of_decide_eq_true Hc1.out), if_neg (of_decide_eq_false Hc2.out)]; try omega), HbF.out⟩
              case measure => simp [intOf]; omega
            · have Hc1 := hide hc1
              have Hc2 := hide hc2
              rw [hc1] at Hs1
              rw [hc2] at Hs2
              clear hc1 hc2
              go_wp2_with fail
              go_region_held3 (fun _ => True) (trivial) ((go_at_call 8; have hqq := Hs1.out; with_reducible refine Calls.mono (hqq _ _) ?_; clear hqq; rintro e V ⟨rfl, hbV⟩; have HbV := hide (below_undrew hbV); clear hbV))
              have hs3 := hide (Hs2.out V HbV.out)
              go_wp2_with fail
              go_region_held3 (fun _ => True) (trivial) ((go_at_call 8; have hqq := hs3.out; with_reducible refine Calls.mono (hqq _ _) ?_; clear hqq; rintro e V2 ⟨rfl, hbV⟩; have HbV2 := hide (below_undrew hbV); clear hbV))
              have HbF := hide (hbk.out.trans ((HbV.out.trans (HbV2.out.mono HbV.out.size)).mono hbk.out.size))
              clear hs3 Hs1 Hs2
              go_wp2
              go_roundw
              case rel => exact ⟨k + 1, by omega, by go_num, congrArg (Value.int .i64) (by rw [St1.out, St2.out, if_neg (of_decide_eq_false Hc1.out), if_pos (of_decide_eq_true Hc2.out)]; try omega), HbF.out⟩
              case measure => simp [intOf]; omega
            · have Hc1 := hide hc1
              have Hc2 := hide hc2
              rw [hc1] at Hs1
              rw [hc2] at Hs2
              clear hc1 hc2
              go_wp2_with fail
              go_region_held3 (fun _ => True) (trivial) ((go_at_call 8; have hqq := Hs1.out; with_reducible refine Calls.mono (hqq _ _) ?_; clear hqq; rintro e V ⟨rfl, hbV⟩; have HbV := hide (below_undrew hbV); clear hbV))
              have hs3 := hide (Hs2.out V HbV.out)
              go_wp2_with fail
              go_region_held3 (fun _ => True) (trivial) ((go_at_call 8; have hqq := hs3.out; with_reducible refine Calls.mono (hqq _ _) ?_; clear hqq; rintro e V2 ⟨rfl, hbV⟩; have HbV2 := hide (below_undrew hbV); clear hbV))
              have HbF := hide (hbk.out.trans ((HbV.out.trans (HbV2.out.mono HbV.out.size)).mono hbk.out.size))
              clear hs3 Hs1 Hs2
              go_wp2
              go_roundw
              case rel => exact ⟨k + 1, by omega, by go_num, congrArg (Value.int .i64) (by rw [St1.out, St2.out, if_neg (of_decide_eq_false Hc1.out), if_neg (of_decide_eq_false Hc2.out)]; try omega), HbF.out⟩
              case measure => simp [intOf]; omega
          · obtain rfl : k = L.length := by omega
            have hz : cnt S S[i].co L.length - cnt L S[i].co L.length = 0 := by
              have := cnt_all S L hperm.out S[i].co
              rw [HSL.out] at this
              omega
            rw [hz]
            clear hz
            have hB := hide (hb5.out.trans (hbk.out.mono hb5.out.size))
            have hown6 := hide (owns_below Hown5.out hbk.out)
            by_cases hi0 : i = 0
            · subst hi0
              go_wp2_with fail
              go_quiet (fail)
              have hF := hide (below_drewN hB.out nq)
              have hown7 := hide (owns_below hown6.out (below_drewN (Below.refl wr.heap.size wr) nq))
              go_wp2
              go_roundw
              case rel => exact ⟨0 + 1, _, _, by omega, by go_num, rfl, hown7.out, hF.out⟩
              case measure => simp [intOf]; omega
            · obtain ⟨p, rfl⟩ : ∃ p, i = p + 1 := ⟨i - 1, by omega⟩
              have hi1 : p < S.length := by omega
              have hSw := HS1.out.below hB.out
              obtain ⟨b5, o5, _, xa5, xc5, e, hx5, x0, x1, x2⟩ := hSw.at hiS
              injection e with e1 e2 e3
              injection e1 with e1
              injection e1 with e1 e4 e5
              subst e1 e4
              clear e2 e3 e5
              obtain ⟨b5, o5, _, xa6, xc6, e, hx6, y0, y1, y2⟩ := hSw.at hi1
              injection e with e1 e2 e3
              injection e1 with e1
              injection e1 with e1 e4 e5
              subst e1 e4
              clear e2 e3 e5
              have hcmp := compare_any s S[p + 1] S[p] wr.drew ((hSw.tups _ (List.getElem_mem hiS)).drew) ((hSw.tups _ (List.getElem_mem hi1)).drew)
              have hpos : 0 ≤ cmpA s S[p + 1] S[p] := by
                have hs := sortC_sorted s (L.map Ac.co)
                rw [← HCO.out, List.pairwise_map, List.pairwise_iff_getElem] at hs
                have h1 := hs p (p + 1) hi1 hiS (by omega)
                rw [← cmpA_co] at h1
                have := (cmp_act s).anti S[p] S[p + 1]
                omega
              obtain ⟨q, hq⟩ : ∃ q, cmpA s S[p + 1] S[p] = q := ⟨_, rfl⟩
              rw [hq] at hcmp hpos
              obtain ⟨A1, hA1⟩ : ∃ A, S[p + 1] = A := ⟨_, rfl⟩
              obtain ⟨A2, hA2⟩ : ∃ A, S[p] = A := ⟨_, rfl⟩
              rw [hA1] at hcmp hx5 x0 x1 x2
              rw [hA2] at hcmp hx6 y0 y1 y2
              obtain ⟨r1, t1, l1, v1⟩ := A1
              obtain ⟨r2, t2, l2, v2⟩ := A2
              simp only [Ac.val] at hcmp hx5 x0 x1 x2 hx6 y0 y1 y2
              subst hx5 hx6
              have Hcmp := hide hcmp
              have hblk := hide (lt_of_cell x0)
              have hblk2 := hide (lt_of_cell y0)
              have hkeep : ∀ V, Below wr.drew.heap.size wr.drew V → Below wr.heap.size wr V ∧ (V.cell? ⟨sb, so + (p + 1) * 3, none⟩ = some (.int .i64 r1) ∧ V.cell? ⟨sb, so + (p + 1) * 3 + 1, none⟩ = some (.slice xa5 t1.length xc5) ∧ V.cell? ⟨sb, so + (p + 1) * 3 + 2, none⟩ = some (.int .i64 l1)) ∧
                  (V.cell? ⟨sb, so + p * 3, none⟩ = some (.int .i64 r2) ∧ V.cell? ⟨sb, so + p * 3 + 1, none⟩ = some (.slice xa6 t2.length xc6) ∧ V.cell? ⟨sb, so + p * 3 + 2, none⟩ = some (.int .i64 l2)) := fun V hv =>
                ⟨below_undrew hv, ⟨((below_undrew hv).cell (p := ⟨sb, so + (p + 1) * 3, none⟩) (lt_of_cell x0)).trans x0, ((below_undrew hv).cell (p := ⟨sb, so + (p + 1) * 3 + 1, none⟩) (lt_of_cell x1)).trans x1, ((below_undrew hv).cell (p := ⟨sb, so + (p + 1) * 3 + 2, none⟩) (lt_of_cell x2)).trans x2⟩,
                  ((below_undrew hv).cell (p := ⟨sb, so + p * 3, none⟩) (lt_of_cell y0)).trans y0, ((below_undrew hv).cell (p := ⟨sb, so + p * 3 + 1, none⟩) (lt_of_cell y1)).trans y1, ((below_undrew hv).cell (p := ⟨sb, so + p * 3 + 2, none⟩) (lt_of_cell y2)).trans y2⟩
              have Hkeep := hide hkeep
              clear hSw hcmp hq hA1 hA2 hkeep hi0
              have i1 : IntKind.i64.wrap (p : Int) = (p : Int) := IntWalk.i64_in _ (by omega)
              have i2 : (0 : Int) ≤ (p : Int) := by omega
              have i3 : (0 : Int) ≤ (p : Int) + 1 := by omega
              have i4 : (p : Int) + 1 < (S.length : Int) := by omega
              have i5 : (p : Int) < (S.length : Int) := by omega
              have i6 : decide ((0 : Int) < (p : Int) + 1) = true := decide_eq_true (by omega)
              have i8 : decide (q < 0) = false := decide_eq_false (by omega)
              go_wp2_with fail
              go_region_held3 (fun V => V.cell? ⟨sb, so + (p + 1) * 3, none⟩ = some (.int .i64 r1) ∧ V.cell? ⟨sb, so + (p + 1) * 3 + 1, none⟩ = some (.slice xa5 t1.length xc5) ∧ V.cell? ⟨sb, so + (p + 1) * 3 + 2, none⟩ = some (.int .i64 l1) ∧ V.cell? ⟨sb, so + p * 3, none⟩ = some (.int .i64 r2) ∧ V.cell? ⟨sb, so + p * 3 + 1, none⟩ = some (.slice xa6 t2.length xc6) ∧ V.cell? ⟨sb, so + p * 3 + 2, none⟩ = some (.int .i64 l2)) (go_keep)
                ((go_at_call 9; have hqq := Hcmp.out; with_reducible refine Calls.mono hqq ?_; clear hqq; rintro e V ⟨rfl, hbV⟩; obtain ⟨z6, ⟨z0, z1, z2⟩, z3, z4, z5⟩ := Hkeep.out V hbV; have HbV := hide z6; clear hbV z6))
              have hF := hide (hB.out.trans (HbV.out.mono hB.out.size))
              have hown7 := hide (owns_below hown6.out HbV.out)
              clear z0 z1 z2 z3 z4 z5 x0 x1 x2 y0 y1 y2 Hkeep Hcmp i1 i2 i3 i4 i5 i6
              go_wp2
              go_roundw
              case rel => exact ⟨p + 1 + 1, _, _, by omega, by go_num, rfl, hown7.out, hF.out⟩
              case measure => simp [intOf]; omega
      · obtain rfl : i = L.length := by omega
        have hT : L.reverse.take L.length = L.reverse := List.take_of_length_le (by simp)
        rw [hT] at hown
        have hlr : L.reverse.length = L.length := by simp
        have hS2 := hide (HS1.out.below hbr.out)
        have hT2 := hide (ActsIs.of_owns (l := L.reverse) (by omega) (by rw [hlr]; exact hown.out) (fun a ha => (HL1.out.below hbr.out).tups a (by simpa using ha)))
        have Hso1 := hide (sort_any s _ S wr hS2.out)
        clear hT hlr hown
        go_wp2_with fail
        refine Hso1.out.mono ?_
        rintro e V1 ⟨w1v, S1, rfl, hr1, hc1, hbv1⟩
        obtain ⟨wa, wc, rfl⟩ := hr1.acts.form
        have hsrt := sortC_sorted s (L.map Ac.co)
        rw [← HCO.out] at hsrt
        have e1 : S1.map Ac.co = S.map Ac.co := by rw [hc1]; exact (sortC_unique s (List.Perm.refl _) hsrt).symm
        have e2 : sortC s (L.reverse.map Ac.co) = S.map Ac.co := (sortC_unique s (hperm.out.trans (by rw [List.map_reverse]; exact (List.reverse_perm _).symm)) hsrt).symm
        have hsa1 := sameAll_any _ _ _ _ V1 hr1.acts (hS2.out.below hbv1)
        rw [decide_eq_true e1] at hsa1
        have Hsa1 := hide hsa1
        have Hbv1 := hide hbv1
        have E2 := hide e2
        clear hr1 hc1 hbv1 hsrt e1 e2 hsa1 Hso1
        go_wp2_with fail
        refine Hsa1.out.mono ?_
        rintro e V2 ⟨rfl, hbv2⟩
        have Hbv2 := hide (Hbv1.out.trans (hbv2.mono Hbv1.out.size))
        have hso2 := sort_any s _ L.reverse V2 (hT2.out.below Hbv2.out)
        have Hso2 := hide hso2
        clear hbv2 hso2 Hsa1
        go_wp2_with fail
        refine Hso2.out.mono ?_
        rintro e V3 ⟨w2v, S2, rfl, hr2, hc2, hbv3⟩
        obtain ⟨wa2, wc2, rfl⟩ := hr2.acts.form
        have Hbv3 := hide (Hbv2.out.trans (hbv3.mono Hbv2.out.size))
        have hsa2 := sameAll_any _ _ _ _ V3 hr2.acts (hS2.out.below Hbv3.out)
        rw [hc2, E2.out, decide_eq_true rfl] at hsa2
        have Hsa2 := hide hsa2
        clear hr2 hc2 hbv3 hsa2 Hso2
        go_wp2_with fail
        refine Hsa2.out.mono ?_
        rintro e V4 ⟨rfl, hbv4⟩
        have Hbv4 := hide (Hbv3.out.trans (hbv4.mono Hbv3.out.size))
        clear hbv4 Hsa2
        go_wp2_with (go_at_call 6; refine (known_walk _).mono ?_; rintro e w' ⟨rfl, hk⟩)
        go_ret
        have q1 := HB1.out
        have q2 := hbr.out.trans (Hbv4.out.mono hbr.out.size)
        have q3 := q2.trans (hk.mono (by have := q2.size; omega))
        exact ⟨rfl, q1.trans (q3.mono q1.size)⟩
end Go.Proofs.Yteealadflekffab
