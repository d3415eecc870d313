/- The walk of witanlaw21.TokensApart. -/
import Derived.Test.YtmcajoccfbebiaaTkAL
namespace Go.Proofs.Ytmcajoccfbebiaa
open Go Go.RowKit Go.MapKept Go.Sort

theorem u64_idx (k : Int) (n : Nat) (h : 0 < n) : ∃ j : Nat, j < n ∧ (IntKind.u64.wrap k).tmod (n : Int) = (j : Int) := by
  have h0 : 0 ≤ IntKind.u64.wrap k := by
    simp [IntKind.wrap, IntKind.signed, IntKind.bits]
    omega
  obtain ⟨u, hu⟩ : ∃ u : Nat, IntKind.u64.wrap k = (u : Int) := ⟨(IntKind.u64.wrap k).toNat, by omega⟩
  refine ⟨u % n, Nat.mod_lt _ h, ?_⟩
  rw [hu]
  rfl
theorem zero_int (w : World) : (zeroValue 3).run Try.prog w = .ok (.int .i64 0) w := by kernel_rfl

set_option maxRecDepth 100000 in
set_option maxHeartbeats 8000000 in
theorem apart_walk (v : Value) (l : List OpT) (n : Int) (w : World) (hv : OpsT w v l) :
    Calls Try.prog 3 #[v, .int .i64 n] w fun e w' => e = .returned (.bool true) ∧ Below w.heap.size w w' := by
  obtain ⟨va, vc, rfl⟩ := hv.form
  have hl63 := hv.1
  by_cases h60 : 60 < l.length
  · have h60' : (60 : Int) < (l.length : Int) := by omega
    clear hv
    go_enter Try.func3, Try.ntmps3
    go_wp2_with fail
    refine (known21 _).mono ?_
    rintro e w' ⟨rfl, hb⟩
    go_wp2
    go_ret
    exact ⟨rfl, hb⟩
  have h60' : decide ((60 : Int) < (l.length : Int)) = false := by simp; omega
  have h60n : decide (60 < l.length) = false := by simp; omega
  have Hb := hide (built_any _ l w hv (by omega))
  have Hv := hide hv
  clear hv
  go_enter Try.func3, Try.ntmps3
  go_wp2_with fail
  (with_reducible refine Hb.out.mono ?_)
  rintro e V1 ⟨a, rfl, A, hA, hS⟩
  clear Hb
  subst hA
  have Hb := hide (built_any _ l V1 (Hv.out.below hS.below) (by omega))
  have HS1 := hide hS
  clear hS Hv
  go_wp2_with fail
  (with_reducible refine Hb.out.mono ?_)
  rintro e V2 ⟨b, rfl, B, hB, hS2⟩
  clear Hb
  subst hB
  have h2 : Two21 w V1 V2 A B (runT l).1 (runT l).1 (runT l).2 l.length := ⟨HS1.out.below' hS2.below, hS2, fun q hq => HS1.out.ar.lt hq, HS1.out.below.size⟩
  obtain ⟨s, hs⟩ : ∃ s, runT l = s := ⟨_, rfl⟩
  rw [hs] at h2 ⊢
  clear hS2 HS1 hs
  obtain ⟨T, last⟩ := s
  simp only at h2 ⊢
  have hle := h2.a.le
  have hl0 := h2.a.tree.lst
  obtain ⟨ln, rfl⟩ : ∃ ln : Nat, last = ln := ⟨last.toNat, by omega⟩
  have hl60 : ln ≤ 60 := by omega
  have hT := hide h2.a.tree
  obtain ⟨m, hm, hje⟩ := u64_idx n (ln + 1) (by omega)
  rw [show ((ln + 1 : Nat) : Int) = (ln : Int) + 1 by omega] at hje
  have hm60 : m ≤ 60 := by omega
  have hmm := @run_makeMap Try.prog
  have h3 := h2.below (((Only.refl [] V2).alloc (.map #[] 0)).below)
  have Hrem := hide (h3.b.rem m)
  have H3 := hide h3
  have HM := hide (IMap.new V2)
  have Hlt2 : Hid (∀ q, B.foot q → q < V2.heap.size) := hide fun q hq => h2.b.ar.lt hq
  have hV12 := h2.b.below.size
  clear h2 h3
  go_wp2_with fail
  (with_reducible refine Hrem.out.mono ?_)
  rintro e V3 ⟨v, R, B', rfl, hrow, hperm, _, hto, hS3⟩
  obtain ⟨ra, rc, rfl⟩ := row_form hrow
  have hRl : R.length ≤ 62 := by
    have h1 := hperm.length_eq
    have h2 := hT.out.rem_len m
    have h3 := H3.out.a.len
    omega
  have hfg : ¬ B'.foot V2.heap.size := fun q => by
    rcases hto.foot _ q with r | r
    · exact absurd (Hlt2.out _ r) (Nat.lt_irrefl _)
    · rw [World.size_alloc] at r
      omega
  have hgB : V2.heap.size ∉ B.all := fun q => absurd (Hlt2.out _ (Ar.mem_all.1 q)) (Nat.lt_irrefl _)
  have HN : Hid (Two21 w V1 V3 A B' T (remT T ln m) ln l.length ∧ V3.ownsRow (V2.heap.size + 1) 32 4 (.slice ra R.length rc) R.length (tflat R) ∧ ∃ G, IMap V3 V2.heap.size G ∧ markP ((R.take 0).map Tk.id) G) := hide ⟨H3.out.stepB hto hS3, by rw [World.size_alloc] at hrow; exact hrow, [], HM.out.only hto.only hgB, fun x => by simp [look]⟩
  have hgone : Hid (∀ x : Int, x ∈ R.map Tk.id ↔ ∃ u ∈ goneL T ln m, u.id = x) := hide fun x => by
    rw [(hperm.map Tk.id).mem_iff, List.mem_map]
  have hb2 := hto.a
  clear hrow hperm hto hS3 Hrem H3 HM Hlt2 hgB
  rw [← hb2]
  clear hb2
  go_wp2_with fail
  go_loopw [53] (fun vi wz => ∃ q : Nat, q ≤ R.length ∧ vi = .int .i64 q ∧ Hid (Two21 w V1 wz A B' T (remT T ln m) ln l.length ∧ wz.ownsRow (V2.heap.size + 1) 32 4 (.slice ra R.length rc) R.length (tflat R) ∧ ∃ G, IMap wz V2.heap.size G ∧ markP ((R.take q).map Tk.id) G)) (fun vi _ => R.length - (intOf vi).toNat)
  case atStart => exact ⟨0, Nat.zero_le _, rfl, HN.out⟩
  case round =>
    obtain ⟨q, hqm, rfl, hq⟩ := hrel
    by_cases hql : q < R.length
    · obtain ⟨h4, hrow, G, hG, hmk⟩ := hq.out
      obtain ⟨g, gc, e, hbg, _, d0, d1, d2, d3⟩ := tok_at hrow hql
      injection e with e1 e2 e3
      subst e1
      clear e2 e3
      have hst : (R.take (q + 1)).map Tk.id = (R.take q).map Tk.id ++ [R[q].id] := by
        rw [List.take_succ_eq_append_getElem hql, List.map_append]
        rfl
      obtain ⟨t, ht⟩ : ∃ t, R[q] = t := ⟨_, rfl⟩
      rw [ht] at d0 d1 d2 d3 hst
      obtain ⟨t0, t1, t2, t3⟩ := t
      simp only at d0 d1 d2 d3 hst
      have hbA : Below wr.heap.size wr (wr.alloc (.cells #[.int .i64 t0, .int .i64 t1, .int .i64 t2, .int .i64 t3] 32)) := ((Only.refl [] wr).alloc _).below
      obtain ⟨wu, hrun, hmu, hou, hzu⟩ := run_mapUpdate (P := Try.prog) (t := 28) Try.underlying28 Try.underlying3 (hG.only (Only.of_below hbA []) (by simp)) t0 (.int .i64 1)
      have HN2 : Hid (Two21 w V1 wu A B' T (remT T ln m) ln l.length ∧ wu.ownsRow (V2.heap.size + 1) 32 4 (.slice (some ⟨g, 0, none⟩) R.length rc) R.length (tflat R) ∧ ∃ G, IMap wu V2.heap.size G ∧ markP ((R.take (q + 1)).map Tk.id) G) := hide ⟨(h4.below hbA).other hou fun z hz => by
          simp only [List.mem_singleton] at hz
          subst hz
          exact ⟨hV12, hfg⟩, owns_only (owns_below hrow hbA) hou fun k hk z => by
          simp only [List.mem_singleton] at z
          simp only [Go.Value.ownBlock, Option.some.injEq] at hk
          omega, _, hmu, by rw [hst]; exact markP_put hmk t0⟩
      have i3 : (0 : Int) ≤ (q : Int) := by omega
      have i4 : (q : Int) < (R.length : Int) := by omega
      clear hq h4 hrow hG hmk hst ht hbA hmu hou hzu
      go_wp2
      go_roundw
      case rel => exact ⟨q + 1, by omega, by go_num, HN2.out⟩
      case measure => simp [intOf]; omega
    · obtain rfl : q = R.length := by omega
      obtain ⟨h4, _, G, hG, hmk⟩ := hq.out
      rw [List.take_length] at hmk
      have HQ : Hid (Two21 w V1 wr A B' T (remT T ln m) ln l.length ∧ IMap wr V2.heap.size G) := hide ⟨h4, hG⟩
      have Hmk : Hid (markP (R.map Tk.id) G) := hide hmk
      clear hq h4 hG hmk HN
      go_wp2_with fail
      go_loopw [12] (fun vi wz => ∃ c : Nat, c ≤ ln + 1 ∧ vi = .int .i64 c ∧ Hid (Two21 w V1 wz A B' T (remT T ln m) ln l.length ∧ IMap wz V2.heap.size G)) (fun vi _ => ln + 1 - (intOf vi).toNat)
      case atStart => exact ⟨0, Nat.zero_le _, rfl, HQ.out⟩
      case round =>
        clear HQ
        obtain ⟨c, hcm, rfl, hq⟩ := hrel
        by_cases hcl : c ≤ ln
        · have g1 : (c : Int) ≤ (ln : Int) := by omega
          have g2 : decide ((c : Int) ≤ (ln : Int)) = true := by simpa using g1
          have Hg := hide (hq.out.1.a.get c)
          have HQ := hide hq.out
          clear hq
          go_wp2_with fail
          (with_reducible refine Hg.out.mono ?_)
          rintro e W1 ⟨rfl, hb1⟩
          have h1 := HQ.out.1.below hb1
          have hG1 := HQ.out.2.only (Only.of_below hb1 []) (by simp)
          clear Hg HQ hb1
          have hgl : ∀ W, IMap W V2.heap.size G → (Instr.lookup 28 (.map (some V2.heap.size)) (.int .i64 c) false).run Try.prog W = .ok ((look G c).getD (.int .i64 0)) W := fun W hW => run_lookup1 (P := Try.prog) (t := 28) Try.underlying28 Try.underlying3 hW (zero_int _) c
          rw [Hmk.out c] at hgl
          have Hgl := hide hgl
          clear hgl
          cases hg : getT T c with
          | none =>
            have hg2 := get_rem_none (last := ln) (n := m) hg
            simp only [Option.getD_none, Option.isSome_none, noTk, Tk.val]
            have hbA := ((Only.refl [] W1).alloc (.cells #[.int .i64 0, .int .i64 0, .int .i64 0, .int .i64 0] 32)).below
            have h2 := h1.below hbA
            have HG2 := hide (hG1.only (Only.of_below hbA []) (by simp))
            have Hg := hide (h2.b.get c)
            rw [hg2] at Hg
            simp only [Option.getD_none, Option.isSome_none, noTk, Tk.val] at Hg
            have H2 := hide h2
            clear h1 hG1 hbA h2 hg hg2
            go_wp2_with fail
            (with_reducible refine Hg.out.mono ?_)
            rintro e W2 ⟨rfl, hb2⟩
            have hbB : Below W2.heap.size W2 (W2.alloc (.cells #[.int .i64 0, .int .i64 0, .int .i64 0, .int .i64 0] 32)) := ((Only.refl [] W2).alloc _).below
            have HN : Hid (Two21 w V1 (W2.alloc (.cells #[.int .i64 0, .int .i64 0, .int .i64 0, .int .i64 0] 32)) A B' T (remT T ln m) ln l.length ∧ IMap (W2.alloc (.cells #[.int .i64 0, .int .i64 0, .int .i64 0, .int .i64 0] 32)) V2.heap.size G) := hide ⟨(H2.out.below hb2).below hbB, (HG2.out.only (Only.of_below hb2 []) (by simp)).only (Only.of_below hbB []) (by simp)⟩
            clear Hg H2 HG2 hb2 hbB Hgl
            go_wp2
            go_roundw
            case rel => exact ⟨c + 1, by omega, by go_num, HN.out⟩
            case measure => simp [intOf]; omega
          | some t =>
            obtain ⟨t0, t1, t2, t3⟩ := t
            simp only [Option.getD_some, Option.isSome_some, Tk.val]
            have hbA : Below W1.heap.size W1 (W1.alloc (.cells #[.int .i64 t0, .int .i64 t1, .int .i64 t2, .int .i64 t3] 32)) := ((Only.refl [] W1).alloc _).below
            have h2 := h1.below hbA
            have HG2 := hide (hG1.only (Only.of_below hbA []) (by simp))
            have hbz := heap_alloc0 W1 (.cells #[.int .i64 t0, .int .i64 t1, .int .i64 t2, .int .i64 t3] 32)
            have Hg := hide (h2.b.get c)
            have H2 := hide h2
            have Hbz := hide hbz
            clear h1 hG1 hbA h2 hbz
            by_cases hgo : ∃ u ∈ goneL T ln m, u.id = (c : Int)
            · have hg2 := get_gone hgo
              rw [hg2] at Hg
              rw [if_pos ((hgone.out c).2 hgo)] at Hgl
              simp only [Option.getD_none, Option.getD_some, Option.isSome_none, noTk, Tk.val] at Hg Hgl
              clear hg hg2 hgo Hbz
              go_wp2_with fail
              (with_reducible refine Hg.out.mono ?_)
              rintro e W2 ⟨rfl, hb2⟩
              have hbB : Below W2.heap.size W2 (W2.alloc (.cells #[.int .i64 0, .int .i64 0, .int .i64 0, .int .i64 0] 32)) := ((Only.refl [] W2).alloc _).below
              have HN : Hid (Two21 w V1 (W2.alloc (.cells #[.int .i64 0, .int .i64 0, .int .i64 0, .int .i64 0] 32)) A B' T (remT T ln m) ln l.length ∧ IMap (W2.alloc (.cells #[.int .i64 0, .int .i64 0, .int .i64 0, .int .i64 0] 32)) V2.heap.size G) := hide ⟨(H2.out.below hb2).below hbB, (HG2.out.only (Only.of_below hb2 []) (by simp)).only (Only.of_below hbB []) (by simp)⟩
              have hgl := Hgl.out _ HN.out.2
              clear Hg H2 HG2 hb2 hbB Hgl
              go_wp2
              go_roundw
              case rel => exact ⟨c + 1, by omega, by go_num, HN.out⟩
              case measure => simp [intOf]; omega
            · have hne : ∀ u ∈ goneL T ln m, u.id ≠ (c : Int) := fun u hu e => hgo ⟨u, hu, e⟩
              have hg2 := get_rem (last := ln) (n := m) hne
              have htu := hT.out.tup_rem m c hne
              rw [hg2, hg] at Hg
              rw [if_neg fun q => hgo ((hgone.out c).1 q)] at Hgl
              simp only [Option.getD_none, Option.getD_some, Option.isSome_some, Tk.val] at Hg Hgl
              have Htu := hide htu
              clear hg hg2 hgo hne htu
              go_wp2_with fail
              (with_reducible refine Hg.out.mono ?_)
              rintro e W2 ⟨rfl, hb2⟩
              have hbB : Below W2.heap.size W2 (W2.alloc (.cells #[.int .i64 t0, .int .i64 t1, .int .i64 t2, .int .i64 t3] 32)) := ((Only.refl [] W2).alloc _).below
              have h3 := (H2.out.below hb2).below hbB
              have HN : Hid (Two21 w V1 (W2.alloc (.cells #[.int .i64 t0, .int .i64 t1, .int .i64 t2, .int .i64 t3] 32)) A B' T (remT T ln m) ln l.length ∧ IMap (W2.alloc (.cells #[.int .i64 t0, .int .i64 t1, .int .i64 t2, .int .i64 t3] 32)) V2.heap.size G) := hide ⟨h3, (HG2.out.only (Only.of_below hb2 []) (by simp)).only (Only.of_below hbB []) (by simp)⟩
              have hgl := Hgl.out _ HN.out.2
              have hbx := (hbB.block W1.heap.size (Nat.lt_of_lt_of_le (lt_of_heap Hbz.out) hb2.size)).trans ((hb2.block W1.heap.size (lt_of_heap Hbz.out)).trans Hbz.out)
              obtain ⟨x0, x1, x2, x3, _⟩ := cells4t hbx
              have Ht := hide (h3.a.tuple (by omega) c)
              clear Hg H2 HG2 hb2 hbB Hgl h3 hbx Hbz
              go_wp2_with fail
              (with_reducible refine Ht.out.mono ?_)
              rintro e W3 ⟨ta, tc, rfl, hrow, hb3⟩
              have h4 := HN.out.1.below hb3
              have HG4 := hide (HN.out.2.only (Only.of_below hb3 []) (by simp))
              have Ht2 := hide (h4.b.tuple (by omega) c)
              rw [Htu.out] at Ht2
              have H4 := hide h4
              have htl : (tupT T ln c).length ≤ 100 := by
                have := chain_len T ((ln : Int) + 1).toNat c
                unfold tupT
                rw [List.length_reverse]
                omega
              have Hn1 := hide (NIs.of_row (by omega) hrow)
              clear Ht HN hgl x0 x1 x2 x3 hrow hb3 h4
              go_wp2_with fail
              (with_reducible refine Ht2.out.mono ?_)
              rintro e W4 ⟨ua, uc, rfl, hrow, hb4⟩
              have Hi := hide (ints_any _ _ _ _ W4 (Hn1.out.below hb4) (NIs.of_row (by omega) hrow))
              have HN : Hid (Two21 w V1 W4 A B' T (remT T ln m) ln l.length ∧ IMap W4 V2.heap.size G) := hide ⟨H4.out.below hb4, HG4.out.only (Only.of_below hb4 []) (by simp)⟩
              clear Ht2 H4 HG4 Hn1 hrow hb4
              go_wp2_with fail
              (with_reducible refine Hi.out.mono ?_)
              rintro e W5 ⟨rfl, nn, rfl⟩
              have HN2 : Hid (Two21 w V1 (W4.drewN nn) A B' T (remT T ln m) ln l.length ∧ IMap (W4.drewN nn) V2.heap.size G) := hide ⟨HN.out.1.below ((Only.refl [] W4).drewN nn).below, HN.out.2.only ((Only.refl [] W4).drewN nn) (by simp)⟩
              simp only [decide_true]
              clear Hi HN
              go_wp2
              go_roundw
              case rel => exact ⟨c + 1, by omega, by go_num, HN2.out⟩
              case measure => simp [intOf]; omega
        · obtain rfl : c = ln + 1 := by omega
          have g1 : ¬ (((ln + 1 : Nat) : Int) ≤ (ln : Int)) := by omega
          have g2 : decide (((ln + 1 : Nat) : Int) ≤ (ln : Int)) = false := by simpa using g1
          have g3 : decide ((ln : Int) + 1 ≤ (ln : Int)) = false := by simp; omega
          have h5 := hq.out.1
          have Hadd := hide (h5.b.add (by omega) 0 1 1)
          have H5 := hide h5
          clear hq h5 Hmk hgone
          go_wp2_with fail
          (with_reducible refine Hadd.out.mono ?_)
          rintro e W1 ⟨id, er, B2, rfl, hto, hor⟩
          obtain ⟨TB, hTB⟩ := H5.out.b.tree.add_zero
          rcases hor with ⟨rfl, rfl, T', hT', hS4⟩ | ⟨_, _, hT', _⟩
          case inr => rw [hTB] at hT'; cases hT'
          have h6 : ASt w W1 A T ln l.length := H5.out.a.other hto.only fun q hq => ⟨fun r => by have := H5.out.lo q r; have := H5.out.b.foot q (Ar.mem_all.1 hq); omega, by have := H5.out.b.foot q (Ar.mem_all.1 hq); have := H5.out.le; omega⟩
          have Hadd2 := hide (h6.add (by omega) 0 1 1)
          obtain ⟨TA, hTA⟩ := h6.tree.add_zero
          have HTA := hide hTA
          clear Hadd hto hT' hS4 hTB H5 h6 hTA
          go_wp2_with fail
          (with_reducible refine Hadd2.out.mono ?_)
          rintro e W2 ⟨id, er, A2, rfl, hto, hor⟩
          rcases hor with ⟨rfl, rfl, T', hT', hS4⟩ | ⟨_, _, hT', _⟩
          case inr => rw [HTA.out] at hT'; cases hT'
          have HB := hide hS4.below
          clear Hadd2 hto hT' hS4 HTA
          go_wp2_with fail
          (with_reducible refine (known21 _).mono ?_)
          rintro e W3 ⟨rfl, hb3⟩
          go_wp2
          go_ret
          exact ⟨rfl, HB.out.trans (hb3.mono HB.out.size)⟩
end Go.Proofs.Ytmcajoccfbebiaa
