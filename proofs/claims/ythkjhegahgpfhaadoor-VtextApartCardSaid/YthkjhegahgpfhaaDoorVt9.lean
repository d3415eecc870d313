/- The walk of witanlaw03.VtextApart. -/
import Derived.Test.YthkjhegahgpfhaaDoorVt8
namespace Go.Proofs.YthkjhegahgpfhaaDoor
open Go Go.RowKit Go.Lib Go.Sort Go.Shelf

/-- Two values in boxes. -/
structure TwoV (w V : World) (a b : Vl) : Prop where
  a : V.heap[w.heap.size]? = some (.cells #[.int .u8 a.k, .int .i64 a.n, .string a.s] 24 (0, 0))
  b : V.heap[w.heap.size + 1]? = some (.cells #[.int .u8 b.k, .int .i64 b.n, .string b.s] 24 (0, 0))
  low : Below w.heap.size w V
theorem TwoV.below {w V V' : World} {a b : Vl} (h : TwoV w V a b) (hb : Below V.heap.size V V') : TwoV w V' a b :=
  ⟨(hb.block _ (lt_of_block h.a)).trans h.a, (hb.block _ (lt_of_block h.b)).trans h.b, h.low.trans (hb.mono h.low.size)⟩
theorem TwoV.cells {w V : World} {a b : Vl} (h : TwoV w V a b) : V.cell? ⟨w.heap.size, 0, none⟩ = some (.int .u8 a.k) ∧ V.cell? ⟨w.heap.size, 1, none⟩ = some (.int .i64 a.n) ∧ V.cell? ⟨w.heap.size, 2, none⟩ = some (.string a.s) ∧
    V.cell? ⟨w.heap.size + 1, 0, none⟩ = some (.int .u8 b.k) ∧ V.cell? ⟨w.heap.size + 1, 1, none⟩ = some (.int .i64 b.n) ∧ V.cell? ⟨w.heap.size + 1, 2, none⟩ = some (.string b.s) :=
  ⟨by simp [World.cell?, h.a], by simp [World.cell?, h.a], by simp [World.cell?, h.a], by simp [World.cell?, h.b], by simp [World.cell?, h.b], by simp [World.cell?, h.b]⟩

set_option maxRecDepth 100000 in
set_option maxHeartbeats 4000000 in
theorem apart_walk (a b : Vl) (w : World) (ha : a.fit) (hb : b.fit) (hR : Rd w) :
    Calls Tryd.prog 4 #[.agg #[.int .u8 a.k, .int .i64 a.n, .string a.s], .agg #[.int .u8 b.k, .int .i64 b.n, .string b.s]] w fun e w' => e = .returned (.bool true) ∧ Below w.heap.size w w' := by
  obtain ⟨W0, hW0⟩ : ∃ W0, (w.alloc (.cells #[.int .u8 a.k, .int .i64 a.n, .string a.s] 24)).alloc (.cells #[.int .u8 b.k, .int .i64 b.n, .string b.s] 24) = W0 := ⟨_, rfl⟩
  have h0 : TwoV w W0 a b := by
    have b1 : Below w.heap.size w (w.alloc (.cells #[.int .u8 a.k, .int .i64 a.n, .string a.s] 24)) := (Below.refl w.heap.size w).alloc (Nat.le_refl _) _
    have z1 : (w.alloc (.cells #[.int .u8 a.k, .int .i64 a.n, .string a.s] 24)).heap.size = w.heap.size + 1 := by simp
    have x2 := (MapKept.heap_alloc (w.alloc (.cells #[.int .u8 a.k, .int .i64 a.n, .string a.s] 24)) (.cells #[.int .u8 b.k, .int .i64 b.n, .string b.s] 24))
    rw [z1] at x2
    rw [← hW0]
    exact ⟨(x2.2 w.heap.size (by omega)).trans (MapKept.heap_alloc w _).1, x2.1, b1.alloc (by omega) _⟩
  have HW0 := hide hW0
  have H0 := hide h0
  have HR := hide hR
  have Hma := hide fun V => may_any a ha.1 V
  have Hmb := hide fun V => may_any b hb.1 V
  have Hk := hide fun V (hV : Below w.heap.size w V) => known03 V (hR.below hV)
  obtain ⟨a0, a1, a2, b0, b1, b2⟩ := h0.cells
  obtain ⟨ma, hma⟩ : ∃ ma, mayB a = ma := ⟨_, rfl⟩
  obtain ⟨mb, hmb⟩ : ∃ mb, mayB b = mb := ⟨_, rfl⟩
  rw [hma] at Hma
  rw [hmb] at Hmb
  clear hW0 h0 hR
  cases ma with
  | false =>
    clear hma hmb Hmb
    go_enter Tryd.func4, Tryd.ntmps4
    go_upto_region 1 with fail
    rw [HW0.out]
    go_wp2_with fail
    (with_reducible refine (Hma.out _).mono ?_)
    rintro e V ⟨rfl, hbV⟩
    have h1 := H0.out.below hbV
    have Hk' := hide (Hk.out V h1.low)
    have HB := hide h1.low
    clear h1 hbV Hma a0 a1 a2 b0 b1 b2
    go_wp2_with fail
    (with_reducible refine Hk'.out.mono ?_)
    rintro e V2 ⟨rfl, hb2⟩
    have HB2 := hide (HB.out.trans (hb2.mono HB.out.size))
    clear hb2 HB
    go_wp2
    go_ret
    exact ⟨rfl, HB2.out⟩
  | true =>
    go_enter Tryd.func4, Tryd.ntmps4
    go_upto_region 1 with fail
    rw [HW0.out]
    go_wp2_with fail
    (with_reducible refine (Hma.out _).mono ?_)
    rintro e V ⟨rfl, hbV⟩
    have h1 := H0.out.below hbV
    clear a0 a1 a2 b0 b1 b2 hbV Hma H0
    obtain ⟨a0, a1, a2, b0, b1, b2⟩ := h1.cells
    have H1 := hide h1
    clear h1
    go_wp2_with fail
    (with_reducible refine (Hmb.out _).mono ?_)
    rintro e V2 ⟨rfl, hbV⟩
    have h2 := H1.out.below hbV
    clear a0 a1 a2 b0 b1 b2 hbV Hmb H1
    obtain ⟨a0, a1, a2, b0, b1, b2⟩ := h2.cells
    have H2 := hide h2
    clear h2
    cases mb with
    | false =>
      have Hk' := hide (Hk.out V2 H2.out.low)
      go_wp2_with fail
      (with_reducible refine Hk'.out.mono ?_)
      rintro e V3 ⟨rfl, hb2⟩
      have HB2 := hide (H2.out.low.trans (hb2.mono H2.out.low.size))
      clear hb2
      go_wp2
      go_ret
      exact ⟨rfl, HB2.out⟩
    | true =>
      rw [mayB_L] at hma hmb
      have hinj := fun e => txtL_inj hma ha.2.1 ha.2.2 hmb hb.2.1 hb.2.2 e
      have hta : dl (txtB a) = txtL a.k a.n (dl a.s) := by show txtM _ _ _ = _; unfold txtM; rw [if_pos hma]
      have htb : dl (txtB b) = txtL b.k b.n (dl b.s) := by show txtM _ _ _ = _; unfold txtM; rw [if_pos hmb]
      have Hta := hide fun V (hV : Below w.heap.size w V) => text_any a V ha (HR.out.below hV)
      have Htb := hide fun V (hV : Below w.heap.size w V) => text_any b V hb (HR.out.below hV)
      obtain ⟨X, hX⟩ : ∃ X, txtB a = X := ⟨_, rfl⟩
      obtain ⟨Y, hY⟩ : ∃ Y, txtB b = Y := ⟨_, rfl⟩
      rw [hX] at hta Hta
      rw [hY] at htb Htb
      obtain ⟨ak, an, aS⟩ := a
      obtain ⟨bk, bn, bS⟩ := b
      simp only at *
      by_cases heq : ak = bk ∧ an = bn ∧ aS = bS
      · obtain ⟨rfl, rfl, rfl⟩ := heq
        obtain rfl : X = Y := hX.symm.trans hY
        clear hinj hta htb hX hY hma hmb Htb
        go_upto_region 3 with fail
        have B0 : RowKit.Below w.heap.size w V2.drew := ⟨H2.out.low.os, H2.out.low.tape, H2.out.low.output, H2.out.low.size, H2.out.low.block⟩
        go_region_held3 (fun V => RowKit.Below w.heap.size w V ∧ V.cell? ⟨w.heap.size, 0, none⟩ = some (.int .u8 ak) ∧ V.cell? ⟨w.heap.size, 1, none⟩ = some (.int .i64 an) ∧ V.cell? ⟨w.heap.size, 2, none⟩ = some (.string aS) ∧ V.cell? ⟨w.heap.size + 1, 0, none⟩ = some (.int .u8 ak) ∧ V.cell? ⟨w.heap.size + 1, 1, none⟩ = some (.int .i64 an) ∧ V.cell? ⟨w.heap.size + 1, 2, none⟩ = some (.string aS)) (((repeat' apply And.intro) <;> first | exact B0 | assumption | exact RowKit.Below.drew (by assumption) | go_keep))
          (first
            | (go_at_call 8; have hS := ‹RowKit.Below w.heap.size w _ ∧ _›; have hq := Hta.out _ hS.1; with_reducible refine Calls.mono hq ?_; clear hq; rintro e V ⟨rfl, hbV⟩; have y0 := hS.1.trans (hbV.mono hS.1.size); have y1 := bcell hbV hS.2.1; have y2 := bcell hbV hS.2.2.1; have y3 := bcell hbV hS.2.2.2.1; have y4 := bcell hbV hS.2.2.2.2.1; have y5 := bcell hbV hS.2.2.2.2.2.1; have y6 := bcell hbV hS.2.2.2.2.2.2; clear hS hbV)
            | (go_at_call 6; have hS := ‹RowKit.Below w.heap.size w _ ∧ _›; have hq := Hk.out _ hS.1; with_reducible refine Calls.mono hq ?_; clear hq; rintro e V ⟨rfl, hbV⟩; have y0 := hS.1.trans (hbV.mono hS.1.size); have y1 := bcell hbV hS.2.1; have y2 := bcell hbV hS.2.2.1; have y3 := bcell hbV hS.2.2.2.1; have y4 := bcell hbV hS.2.2.2.2.1; have y5 := bcell hbV hS.2.2.2.2.2.1; have y6 := bcell hbV hS.2.2.2.2.2.2; clear hS hbV))
        have HY := hide y0
        clear y0 y1 y2 y3 y4 y5 y6
        go_wp2
        go_ret
        exact ⟨rfl, HY.out⟩
      · have hne : ¬ dl X = dl Y := fun e => by
          rw [hta, htb] at e
          obtain ⟨h1, h2, h3⟩ := hinj e
          exact heq ⟨h1, h2, dl_inj h3⟩
        have t1 : (X.toList == Y.toList) = false := by rw [toList_dl, toList_dl]; simpa using hne
        clear hinj hta htb hX hY hma hmb hne
        by_cases hk1 : ak = bk
        · subst hk1
          by_cases hn1 : an = bn
          · subst hn1
            have hs1 : ¬ dl aS = dl bS := fun e => heq ⟨rfl, rfl, dl_inj e⟩
            have s1 : (aS.toList == bS.toList) = false := by rw [toList_dl, toList_dl]; simpa using hs1
            clear heq hs1
            go_upto_region 3 with fail
            have B0 : RowKit.Below w.heap.size w V2.drew := ⟨H2.out.low.os, H2.out.low.tape, H2.out.low.output, H2.out.low.size, H2.out.low.block⟩
            go_region_held3 (fun V => RowKit.Below w.heap.size w V ∧ V.cell? ⟨w.heap.size, 0, none⟩ = some (.int .u8 ak) ∧ V.cell? ⟨w.heap.size, 1, none⟩ = some (.int .i64 an) ∧ V.cell? ⟨w.heap.size, 2, none⟩ = some (.string aS) ∧ V.cell? ⟨w.heap.size + 1, 0, none⟩ = some (.int .u8 ak) ∧ V.cell? ⟨w.heap.size + 1, 1, none⟩ = some (.int .i64 an) ∧ V.cell? ⟨w.heap.size + 1, 2, none⟩ = some (.string bS)) (((repeat' apply And.intro) <;> first | exact B0 | assumption | exact RowKit.Below.drew (by assumption) | go_keep))
              (first
                | (go_at_call 8; have hS := ‹RowKit.Below w.heap.size w _ ∧ _›; have hq := Hta.out _ hS.1; with_reducible refine Calls.mono hq ?_; clear hq; rintro e V ⟨rfl, hbV⟩; have y0 := hS.1.trans (hbV.mono hS.1.size); have y1 := bcell hbV hS.2.1; have y2 := bcell hbV hS.2.2.1; have y3 := bcell hbV hS.2.2.2.1; have y4 := bcell hbV hS.2.2.2.2.1; have y5 := bcell hbV hS.2.2.2.2.2.1; have y6 := bcell hbV hS.2.2.2.2.2.2; clear hS hbV)
                | (go_at_call 8; have hS := ‹RowKit.Below w.heap.size w _ ∧ _›; have hq := Htb.out _ hS.1; with_reducible refine Calls.mono hq ?_; clear hq; rintro e V ⟨rfl, hbV⟩; have y0 := hS.1.trans (hbV.mono hS.1.size); have y1 := bcell hbV hS.2.1; have y2 := bcell hbV hS.2.2.1; have y3 := bcell hbV hS.2.2.2.1; have y4 := bcell hbV hS.2.2.2.2.1; have y5 := bcell hbV hS.2.2.2.2.2.1; have y6 := bcell hbV hS.2.2.2.2.2.2; clear hS hbV)
                | (go_at_call 6; have hS := ‹RowKit.Below w.heap.size w _ ∧ _›; have hq := Hk.out _ hS.1; with_reducible refine Calls.mono hq ?_; clear hq; rintro e V ⟨rfl, hbV⟩; have y0 := hS.1.trans (hbV.mono hS.1.size); have y1 := bcell hbV hS.2.1; have y2 := bcell hbV hS.2.2.1; have y3 := bcell hbV hS.2.2.2.1; have y4 := bcell hbV hS.2.2.2.2.1; have y5 := bcell hbV hS.2.2.2.2.2.1; have y6 := bcell hbV hS.2.2.2.2.2.2; clear hS hbV))
            have HY := hide y0
            clear y0 y1 y2 y3 y4 y5 y6
            go_wp2
            go_ret
            exact ⟨rfl, HY.out⟩
          · have n1 : (an == bn) = false := by simpa using hn1
            clear heq hn1
            go_upto_region 3 with fail
            have B0 : RowKit.Below w.heap.size w V2.drew := ⟨H2.out.low.os, H2.out.low.tape, H2.out.low.output, H2.out.low.size, H2.out.low.block⟩
            go_region_held3 (fun V => RowKit.Below w.heap.size w V ∧ V.cell? ⟨w.heap.size, 0, none⟩ = some (.int .u8 ak) ∧ V.cell? ⟨w.heap.size, 1, none⟩ = some (.int .i64 an) ∧ V.cell? ⟨w.heap.size, 2, none⟩ = some (.string aS) ∧ V.cell? ⟨w.heap.size + 1, 0, none⟩ = some (.int .u8 ak) ∧ V.cell? ⟨w.heap.size + 1, 1, none⟩ = some (.int .i64 bn) ∧ V.cell? ⟨w.heap.size + 1, 2, none⟩ = some (.string bS)) (((repeat' apply And.intro) <;> first | exact B0 | assumption | exact RowKit.Below.drew (by assumption) | go_keep))
              (first
                | (go_at_call 8; have hS := ‹RowKit.Below w.heap.size w _ ∧ _›; have hq := Hta.out _ hS.1; with_reducible refine Calls.mono hq ?_; clear hq; rintro e V ⟨rfl, hbV⟩; have y0 := hS.1.trans (hbV.mono hS.1.size); have y1 := bcell hbV hS.2.1; have y2 := bcell hbV hS.2.2.1; have y3 := bcell hbV hS.2.2.2.1; have y4 := bcell hbV hS.2.2.2.2.1; have y5 := bcell hbV hS.2.2.2.2.2.1; have y6 := bcell hbV hS.2.2.2.2.2.2; clear hS hbV)
                | (go_at_call 8; have hS := ‹RowKit.Below w.heap.size w _ ∧ _›; have hq := Htb.out _ hS.1; with_reducible refine Calls.mono hq ?_; clear hq; rintro e V ⟨rfl, hbV⟩; have y0 := hS.1.trans (hbV.mono hS.1.size); have y1 := bcell hbV hS.2.1; have y2 := bcell hbV hS.2.2.1; have y3 := bcell hbV hS.2.2.2.1; have y4 := bcell hbV hS.2.2.2.2.1; have y5 := bcell hbV hS.2.2.2.2.2.1; have y6 := bcell hbV hS.2.2.2.2.2.2; clear hS hbV)
                | (go_at_call 6; have hS := ‹RowKit.Below w.heap.size w _ ∧ _›; have hq := Hk.out _ hS.1; with_reducible refine Calls.mono hq ?_; clear hq; rintro e V ⟨rfl, hbV⟩; have y0 := hS.1.trans (hbV.mono hS.1.size); have y1 := bcell hbV hS.2.1; have y2 := bcell hbV hS.2.2.1; have y3 := bcell hbV hS.2.2.2.1; have y4 := bcell hbV hS.2.2.2.2.1; have y5 := bcell hbV hS.2.2.2.2.2.1; have y6 := bcell hbV hS.2.2.2.2.2.2; clear hS hbV))
            have HY := hide y0
            clear y0 y1 y2 y3 y4 y5 y6
            go_wp2
            go_ret
            exact ⟨rfl, HY.out⟩
        · have k1 : (ak == bk) = false := by simpa using hk1
          clear heq hk1
          go_upto_region 3 with fail
          have B0 : RowKit.Below w.heap.size w V2.drew := ⟨H2.out.low.os, H2.out.low.tape, H2.out.low.output, H2.out.low.size, H2.out.low.block⟩
          go_region_held3 (fun V => RowKit.Below w.heap.size w V ∧ V.cell? ⟨w.heap.size, 0, none⟩ = some (.int .u8 ak) ∧ V.cell? ⟨w.heap.size, 1, none⟩ = some (.int .i64 an) ∧ V.cell? ⟨w.heap.size, 2, none⟩ = some (.string aS) ∧ V.cell? ⟨w.heap.size + 1, 0, none⟩ = some (.int .u8 bk) ∧ V.cell? ⟨w.heap.size + 1, 1, none⟩ = some (.int .i64 bn) ∧ V.cell? ⟨w.heap.size + 1, 2, none⟩ = some (.string bS)) (((repeat' apply And.intro) <;> first | exact B0 | assumption | exact RowKit.Below.drew (by assumption) | go_keep))
            (first
              | (go_at_call 8; have hS := ‹RowKit.Below w.heap.size w _ ∧ _›; have hq := Hta.out _ hS.1; with_reducible refine Calls.mono hq ?_; clear hq; rintro e V ⟨rfl, hbV⟩; have y0 := hS.1.trans (hbV.mono hS.1.size); have y1 := bcell hbV hS.2.1; have y2 := bcell hbV hS.2.2.1; have y3 := bcell hbV hS.2.2.2.1; have y4 := bcell hbV hS.2.2.2.2.1; have y5 := bcell hbV hS.2.2.2.2.2.1; have y6 := bcell hbV hS.2.2.2.2.2.2; clear hS hbV)
              | (go_at_call 8; have hS := ‹RowKit.Below w.heap.size w _ ∧ _›; have hq := Htb.out _ hS.1; with_reducible refine Calls.mono hq ?_; clear hq; rintro e V ⟨rfl, hbV⟩; have y0 := hS.1.trans (hbV.mono hS.1.size); have y1 := bcell hbV hS.2.1; have y2 := bcell hbV hS.2.2.1; have y3 := bcell hbV hS.2.2.2.1; have y4 := bcell hbV hS.2.2.2.2.1; have y5 := bcell hbV hS.2.2.2.2.2.1; have y6 := bcell hbV hS.2.2.2.2.2.2; clear hS hbV)
              | (go_at_call 6; have hS := ‹RowKit.Below w.heap.size w _ ∧ _›; have hq := Hk.out _ hS.1; with_reducible refine Calls.mono hq ?_; clear hq; rintro e V ⟨rfl, hbV⟩; have y0 := hS.1.trans (hbV.mono hS.1.size); have y1 := bcell hbV hS.2.1; have y2 := bcell hbV hS.2.2.1; have y3 := bcell hbV hS.2.2.2.1; have y4 := bcell hbV hS.2.2.2.2.1; have y5 := bcell hbV hS.2.2.2.2.2.1; have y6 := bcell hbV hS.2.2.2.2.2.2; clear hS hbV))
          have HY := hide y0
          clear y0 y1 y2 y3 y4 y5 y6
          go_wp2
          go_ret
          exact ⟨rfl, HY.out⟩
end Go.Proofs.YthkjhegahgpfhaaDoor
