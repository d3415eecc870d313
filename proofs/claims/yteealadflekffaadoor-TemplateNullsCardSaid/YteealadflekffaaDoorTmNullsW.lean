/- TemplateNulls: the walk. -/
import Derived.Test.YteealadflekffaaDoorTmNulls
namespace Go.Proofs.YteealadflekffaaDoor
open Go Go.RowKit Go.Lib

set_option maxRecDepth 100000 in
set_option maxHeartbeats 8000000 in
theorem nulls_mid (a : Option Addr) (c : Nat) (L : List Tpl) (j : Nat) (hj : j < L.length) (va : Option Addr) (vc : Nat) (s : List Vl) (k : Int) (w : World) (hT : Tab w)
    (h : TplsIs w a c L) (hv : VlsIs w va vc s) (hnil : va = none → s.length = 0 ∧ vc = 0) (hg1 : greatB L = false) (hs : s.length ≤ 30) :
    Calls Tryd.prog 4 #[.slice a L.length c, .int .i64 j, .slice va s.length vc, .int .i64 k] w fun e w' => e = .returned (.bool true) ∧ Below w.heap.size w w' := by
  have hL30 : L.length ≤ 30 := by
    unfold greatB at hg1
    simp only [Bool.or_eq_false_iff, decide_eq_false_iff_not] at hg1
    omega
  have hn20 : L[j].s.length ≤ 20 := by
    unfold greatB at hg1
    simp only [Bool.or_eq_false_iff] at hg1
    have := List.any_eq_false.1 hg1.1 _ (List.getElem_mem hj)
    unfold greatT at this
    simp only [Bool.or_eq_true, decide_eq_true_eq, not_or] at this
    omega
  have G1 := great_any a c L w h
  rw [hg1] at G1
  obtain ⟨b, off, rfl, c0, c1⟩ := h.at hj
  have hf := fun l V (hV : Below w.heap.size w V) va vc (hl : VlsIs V va vc l) => fits_any j (some ⟨b, off, none⟩) c L va vc l V (h.below hV) hl
  have hnf := nulls_fit hj
  have hmf := fun (l : List Vl) (hl : l.length ≠ L[j].s.length) => many_fit hj hl
  have hzf := fun (e : fitsN L j s = 0) => fits_zero hj e
  have hsf := fun (e : fitsN L j s = 0) i => fits_set hj e i
  obtain ⟨n, hn⟩ : ∃ n, L[j].s.length = n := ⟨_, rfl⟩
  rw [hn] at hnf hmf hzf hn20 c1
  have Hf := hide hf
  have Hnf := hide hnf
  have Hmf := hide hmf
  have Hzf := hide hzf
  have Hsf := hide hsf
  have HG := hide G1
  have HT := hide hT
  have Hv := hide hv
  have Hnil := hide hnil
  have hvl := hv.1.len
  have hll := h.1.len
  clear h hv hnil G1 hf hnf hmf hzf hsf hn hT hg1
  have ds : (s.length : Int) ≤ 30 := by omega
  have ds' : decide ((30 : Int) < s.length) = false := by simp; omega
  have j0 : decide ((j : Int) < 0) = false := by simp
  have jn : decide (L.length ≤ j) = false := by simp; omega
  obtain ⟨V0, hrun0, hb0, hv0⟩ := make_fits n (by omega) w
  have F0 := hide (Hf.out _ V0 hb0 _ _ hv0)
  rw [Hnf.out, List.length_replicate] at F0
  have B0 := hide hb0
  clear hb0 hv0 c0
  go_enter Tryd.func4, Tryd.ntmps4
  go_wp2_with fail
  (with_reducible refine HG.out.mono ?_)
  rintro e U ⟨rfl, rfl⟩
  clear HG
  go_wp2_with fail
  clear hrun0 c1
  (with_reducible refine F0.out.mono ?_)
  rintro e U0 ⟨rfl, hu0⟩
  have C0 := hide (B0.out.trans (hu0.mono B0.out.size))
  clear hu0 F0
  obtain ⟨V1, hrun1, hb1, hv1⟩ := make_fits (n + 1) (by omega) U0
  have F1 := hide (Hf.out _ V1 (C0.out.trans (hb1.mono C0.out.size)) _ _ hv1)
  rw [Hmf.out _ (by simp), List.length_replicate] at F1
  have B1 := hide (C0.out.trans (hb1.mono C0.out.size))
  simp only [Int.natCast_add, Int.cast_ofNat_Int] at hrun1
  clear hb1 hv1
  go_wp2_with fail
  clear hrun1
  (with_reducible refine F1.out.mono ?_)
  rintro e U1 ⟨rfl, hu1⟩
  have C1 := hide (B1.out.trans (hu1.mono B1.out.size))
  clear hu1 F1
  by_cases hn0 : 0 < n
  · obtain ⟨V2, hrun2, hb2, hv2⟩ := make_fits (n - 1) (by omega) U1
    have B2 := hide (C1.out.trans (hb2.mono C1.out.size))
    have F2 := hide (Hf.out _ V2 B2.out _ _ hv2)
    rw [Hmf.out _ (by simp; omega), List.length_replicate] at F2
    rw [show ((n - 1 : Nat) : Int) = (n : Int) - 1 by omega] at hrun2
    clear hb2 hv2
    go_wp2_with fail
    clear hrun2
    (with_reducible refine F2.out.mono ?_)
    rintro e U2 ⟨rfl, hu2⟩
    have C2 := hide (B2.out.trans (hu2.mono B2.out.size))
    clear hu2 F2
    have F3 := hide (Hf.out s U2 C2.out va vc (Hv.out.below C2.out))
    obtain ⟨E, hE⟩ : ∃ E, fitsN L j s = E := ⟨_, rfl⟩
    rw [hE] at F3 Hzf Hsf
    clear hE
    go_wp2_with fail
    (with_reducible refine F3.out.mono ?_)
    rintro e U3 ⟨rfl, hu3⟩
    have C3 := hide (C2.out.trans (hu3.mono C2.out.size))
    clear hu3 F3
    have HK := hide fun V (hV : Below w.heap.size w V) => known_any V (HT.out.below hV)
    by_cases hE0 : E = 0
    · subst hE0
      have hsl := (Hzf.out rfl).1
      have Hsf0 := hide (Hsf.out rfl)
      clear Hzf Hsf
      by_cases hs0 : s.length = 0
      · have ds0 : ((s.length : Int) == 0) = true := by rw [beq_iff_eq]; omega
        have hnz0 := hide hs0
        clear hs0 hsl
        go_wp2_with fail
        (with_reducible refine (HK.out U3 C3.out).mono ?_)
        rintro e U4 ⟨rfl, hu4⟩
        have C4 := hide (C3.out.trans (hu4.mono C3.out.size))
        clear hu4
        go_wp2
        go_ret
        exact ⟨rfl, C4.out⟩
      · have ds0 : ((s.length : Int) == 0) = false := by rw [beq_eq_false_iff_ne]; omega
        have dsn : ((s.length : Int) == (n : Int)) = true := by rw [hsl]; simp
        have hpos : 0 < s.length := by omega
        obtain ⟨sa, rfl⟩ : ∃ sa, va = some sa := by
          cases va with
          | none => exact absurd (Hnil.out rfl).1 hs0
          | some sa => exact ⟨sa, rfl⟩
        obtain ⟨i0, hi, hz0, hz1, hz2⟩ := info_partsK infoVl
        obtain ⟨W, hW⟩ : ∃ W, U3.alloc (.cells #[] 33) = W := ⟨_, rfl⟩
        have hbW : Below U3.heap.size U3 W := by rw [← hW]; exact (Below.refl _ _).alloc (Nat.le_refl _) _
        have hown : W.ownsRow U3.heap.size 33 3 (.slice (some ⟨U3.heap.size, 0, none⟩) 0 0) 0 [] := by rw [← hW]; exact own_empty (heap_new _ _) (Nat.le_refl _)
        have hnews := SlAt.news vlCells (by decide) ((Hv.out.below C3.out).1.below hbW)
        have hok := Hv.out.2
        have Hown := hide hown
        have Hnews := hide hnews
        have Hok := hide hok
        have HbW := hide hbW
        have Hb3 : Hid (0 + s.length ≤ maxLen) := (by unfold maxLen Hid; omega)
        have Hb4 : Hid ((0 + s.length) * 32 ≤ 140737488355328) := (by unfold Hid; omega)
        have Hsn := hide hsl
        clear hown hnews hok hbW hs0 hsl
        go_upto_region 11 with (at_builtin; refine wpList_append_own _ rfl _ _ 23 rfl U3.heap.size 33 i0 (.agg #[.int .u8 0, .int .i64 0, .string ⟨#[]⟩]) 3 32 Tryd.underlying23 hi hz0 hz1 hz2 rfl (by decide) _ 0 [] rfl Hown.out sa s.length vc (s.flatMap Vl.cells) rfl (flat_len vlCells s) Hnews.out (vl_one s) Hb3.out Hb4.out HbW.out.size ?_; intro v' X hown' hgrow _)
        rw [Nat.zero_add, List.nil_append] at hown'
        obtain ⟨g, cap, rfl, hBg, hgX⟩ := own_pos hown' hpos
        obtain ⟨ix, hix, hje⟩ := u64_idx k s.length hpos
        have BX : Below w.heap.size w X := C3.out.trans ((HbW.out.grown hgrow HbW.out.size (fun b e => (World.ownsRow.lt Hown.out b e).1)).mono C3.out.size)
        have hfl : (s.flatMap Vl.cells).length = s.length * 3 := flat_len vlCells s
        have cc0 := hown'.cellAt (ix * 3) (by omega)
        have cc1 := hown'.cellAt (ix * 3 + 1) (by omega)
        have cc2 := hown'.cellAt (ix * 3 + 2) (by omega)
        rw [List.getElem?_eq_getElem (by omega)] at cc0 cc1 cc2
        obtain ⟨o0, ho0⟩ : ∃ o, (s.flatMap Vl.cells)[ix * 3]'(by omega) = o := ⟨_, rfl⟩
        obtain ⟨o1, ho1⟩ : ∃ o, (s.flatMap Vl.cells)[ix * 3 + 1]'(by omega) = o := ⟨_, rfl⟩
        obtain ⟨o2, ho2⟩ : ∃ o, (s.flatMap Vl.cells)[ix * 3 + 2]'(by omega) = o := ⟨_, rfl⟩
        rw [ho0] at cc0
        rw [ho1] at cc1
        rw [ho2] at cc2
        have ff0 := hown'.frozenAt (ix * 3)
        have ff1 := hown'.frozenAt (ix * 3 + 1)
        have ff2 := hown'.frozenAt (ix * 3 + 2)
        have hs1 := hown'.stored (ix * 3) (.int .u8 0)
        have hs2 := hs1.1.stored (ix * 3 + 1) (.int .i64 0)
        have hs3 := hs2.1.stored (ix * 3 + 2) (.string ⟨#[]⟩)
        have hY := hs3.1
        rw [flat_set] at hY
        have BY : Below w.heap.size w (((X.setCell ⟨g, ix * 3, none⟩ (.int .u8 0)).setCell ⟨g, ix * 3 + 1, none⟩ (.int .i64 0)).setCell ⟨g, ix * 3 + 2, none⟩ (.string ⟨#[]⟩)) :=
          ((BX.setCell (p := ⟨g, ix * 3, none⟩) (Nat.le_trans C3.out.size hBg) _).setCell (p := ⟨g, ix * 3 + 1, none⟩) (Nat.le_trans C3.out.size hBg) _).setCell (p := ⟨g, ix * 3 + 2, none⟩) (Nat.le_trans C3.out.size hBg) _
        obtain ⟨a2, c2, e2, hvY⟩ := vls_own (l := s.set ix vZ) (by rw [List.length_set]; exact hY) (fun x hx => (List.mem_or_eq_of_mem_set hx).elim (Hok.out x) fun e => by rw [e]; exact okZ)
        rw [List.length_set] at e2
        cases e2
        have F4 := hide (Hf.out _ _ BY _ _ hvY)
        rw [Hsf0.out, List.length_set] at F4
        have BYh := hide BY
        have hix1 : (ix : Int) < (s.length : Int) := by omega
        have hix0 : (0 : Int) ≤ (ix : Int) := by omega
        clear hs1 hs2 hs3 hY BY BX hvY hown' hgrow ho0 ho1 ho2 hfl Hf Hown Hnews Hsf0
        go_wp2_with fail
        (with_reducible refine F4.out.mono ?_)
        rintro e U4 ⟨rfl, hu4⟩
        have C4 := hide (BYh.out.trans (hu4.mono BYh.out.size))
        clear hu4 F4 cc0 cc1 cc2 ff0 ff1 ff2
        go_wp2_with fail
        (with_reducible refine (HK.out U4 C4.out).mono ?_)
        rintro e U5 ⟨rfl, hu5⟩
        have C5 := hide (C4.out.trans (hu5.mono C4.out.size))
        clear hu5
        go_wp2
        go_ret
        exact ⟨rfl, C5.out⟩
    · have e0 : (E == 0) = false := by simpa using hE0
      have e0' : (E != 0) = true := by simpa using hE0
      clear hE0
      go_wp2_with fail
      (with_reducible refine (HK.out U3 C3.out).mono ?_)
      rintro e U4 ⟨rfl, hu4⟩
      have C4 := hide (C3.out.trans (hu4.mono C3.out.size))
      clear hu4
      go_wp2
      go_ret
      exact ⟨rfl, C4.out⟩
  · have hnz : decide (0 < n) = false := by simpa using hn0
    have F3 := hide (Hf.out s U1 C1.out va vc (Hv.out.below C1.out))
    obtain ⟨E, hE⟩ : ∃ E, fitsN L j s = E := ⟨_, rfl⟩
    rw [hE] at F3 Hzf Hsf
    clear hE
    go_wp2_with fail
    (with_reducible refine F3.out.mono ?_)
    rintro e U3 ⟨rfl, hu3⟩
    have C3 := hide (C1.out.trans (hu3.mono C1.out.size))
    clear hu3 F3
    have HK := hide fun V (hV : Below w.heap.size w V) => known_any V (HT.out.below hV)
    by_cases hE0 : E = 0
    · subst hE0
      have hsl := (Hzf.out rfl).1
      have Hsf0 := hide (Hsf.out rfl)
      clear Hzf Hsf
      by_cases hs0 : s.length = 0
      · have ds0 : ((s.length : Int) == 0) = true := by rw [beq_iff_eq]; omega
        have hnz0 := hide hs0
        clear hs0 hsl
        go_wp2_with fail
        (with_reducible refine (HK.out U3 C3.out).mono ?_)
        rintro e U4 ⟨rfl, hu4⟩
        have C4 := hide (C3.out.trans (hu4.mono C3.out.size))
        clear hu4
        go_wp2
        go_ret
        exact ⟨rfl, C4.out⟩
      · have ds0 : ((s.length : Int) == 0) = false := by rw [beq_eq_false_iff_ne]; omega
        have dsn : ((s.length : Int) == (n : Int)) = true := by rw [hsl]; simp
        have hpos : 0 < s.length := by omega
        obtain ⟨sa, rfl⟩ : ∃ sa, va = some sa := by
          cases va with
          | none => exact absurd (Hnil.out rfl).1 hs0
          | some sa => exact ⟨sa, rfl⟩
        obtain ⟨i0, hi, hz0, hz1, hz2⟩ := info_partsK infoVl
        obtain ⟨W, hW⟩ : ∃ W, U3.alloc (.cells #[] 33) = W := ⟨_, rfl⟩
        have hbW : Below U3.heap.size U3 W := by rw [← hW]; exact (Below.refl _ _).alloc (Nat.le_refl _) _
        have hown : W.ownsRow U3.heap.size 33 3 (.slice (some ⟨U3.heap.size, 0, none⟩) 0 0) 0 [] := by rw [← hW]; exact own_empty (heap_new _ _) (Nat.le_refl _)
        have hnews := SlAt.news vlCells (by decide) ((Hv.out.below C3.out).1.below hbW)
        have hok := Hv.out.2
        have Hown := hide hown
        have Hnews := hide hnews
        have Hok := hide hok
        have HbW := hide hbW
        have Hb3 : Hid (0 + s.length ≤ maxLen) := (by unfold maxLen Hid; omega)
        have Hb4 : Hid ((0 + s.length) * 32 ≤ 140737488355328) := (by unfold Hid; omega)
        have Hsn := hide hsl
        clear hown hnews hok hbW hs0 hsl
        go_upto_region 11 with (at_builtin; refine wpList_append_own _ rfl _ _ 23 rfl U3.heap.size 33 i0 (.agg #[.int .u8 0, .int .i64 0, .string ⟨#[]⟩]) 3 32 Tryd.underlying23 hi hz0 hz1 hz2 rfl (by decide) _ 0 [] rfl Hown.out sa s.length vc (s.flatMap Vl.cells) rfl (flat_len vlCells s) Hnews.out (vl_one s) Hb3.out Hb4.out HbW.out.size ?_; intro v' X hown' hgrow _)
        rw [Nat.zero_add, List.nil_append] at hown'
        obtain ⟨g, cap, rfl, hBg, hgX⟩ := own_pos hown' hpos
        obtain ⟨ix, hix, hje⟩ := u64_idx k s.length hpos
        have BX : Below w.heap.size w X := C3.out.trans ((HbW.out.grown hgrow HbW.out.size (fun b e => (World.ownsRow.lt Hown.out b e).1)).mono C3.out.size)
        have hfl : (s.flatMap Vl.cells).length = s.length * 3 := flat_len vlCells s
        have cc0 := hown'.cellAt (ix * 3) (by omega)
        have cc1 := hown'.cellAt (ix * 3 + 1) (by omega)
        have cc2 := hown'.cellAt (ix * 3 + 2) (by omega)
        rw [List.getElem?_eq_getElem (by omega)] at cc0 cc1 cc2
        obtain ⟨o0, ho0⟩ : ∃ o, (s.flatMap Vl.cells)[ix * 3]'(by omega) = o := ⟨_, rfl⟩
        obtain ⟨o1, ho1⟩ : ∃ o, (s.flatMap Vl.cells)[ix * 3 + 1]'(by omega) = o := ⟨_, rfl⟩
        obtain ⟨o2, ho2⟩ : ∃ o, (s.flatMap Vl.cells)[ix * 3 + 2]'(by omega) = o := ⟨_, rfl⟩
        rw [ho0] at cc0
        rw [ho1] at cc1
        rw [ho2] at cc2
        have ff0 := hown'.frozenAt (ix * 3)
        have ff1 := hown'.frozenAt (ix * 3 + 1)
        have ff2 := hown'.frozenAt (ix * 3 + 2)
        have hs1 := hown'.stored (ix * 3) (.int .u8 0)
        have hs2 := hs1.1.stored (ix * 3 + 1) (.int .i64 0)
        have hs3 := hs2.1.stored (ix * 3 + 2) (.string ⟨#[]⟩)
        have hY := hs3.1
        rw [flat_set] at hY
        have BY : Below w.heap.size w (((X.setCell ⟨g, ix * 3, none⟩ (.int .u8 0)).setCell ⟨g, ix * 3 + 1, none⟩ (.int .i64 0)).setCell ⟨g, ix * 3 + 2, none⟩ (.string ⟨#[]⟩)) :=
          ((BX.setCell (p := ⟨g, ix * 3, none⟩) (Nat.le_trans C3.out.size hBg) _).setCell (p := ⟨g, ix * 3 + 1, none⟩) (Nat.le_trans C3.out.size hBg) _).setCell (p := ⟨g, ix * 3 + 2, none⟩) (Nat.le_trans C3.out.size hBg) _
        obtain ⟨a2, c2, e2, hvY⟩ := vls_own (l := s.set ix vZ) (by rw [List.length_set]; exact hY) (fun x hx => (List.mem_or_eq_of_mem_set hx).elim (Hok.out x) fun e => by rw [e]; exact okZ)
        rw [List.length_set] at e2
        cases e2
        have F4 := hide (Hf.out _ _ BY _ _ hvY)
        rw [Hsf0.out, List.length_set] at F4
        have BYh := hide BY
        have hix1 : (ix : Int) < (s.length : Int) := by omega
        have hix0 : (0 : Int) ≤ (ix : Int) := by omega
        clear hs1 hs2 hs3 hY BY BX hvY hown' hgrow ho0 ho1 ho2 hfl Hf Hown Hnews Hsf0
        go_wp2_with fail
        (with_reducible refine F4.out.mono ?_)
        rintro e U4 ⟨rfl, hu4⟩
        have C4 := hide (BYh.out.trans (hu4.mono BYh.out.size))
        clear hu4 F4 cc0 cc1 cc2 ff0 ff1 ff2
        go_wp2_with fail
        (with_reducible refine (HK.out U4 C4.out).mono ?_)
        rintro e U5 ⟨rfl, hu5⟩
        have C5 := hide (C4.out.trans (hu5.mono C4.out.size))
        clear hu5
        go_wp2
        go_ret
        exact ⟨rfl, C5.out⟩
    · have e0 : (E == 0) = false := by simpa using hE0
      have e0' : (E != 0) = true := by simpa using hE0
      clear hE0
      go_wp2_with fail
      (with_reducible refine (HK.out U3 C3.out).mono ?_)
      rintro e U4 ⟨rfl, hu4⟩
      have C4 := hide (C3.out.trans (hu4.mono C3.out.size))
      clear hu4
      go_wp2
      go_ret
      exact ⟨rfl, C4.out⟩

set_option maxRecDepth 100000 in
set_option maxHeartbeats 4000000 in
theorem nulls_out (a : Option Addr) (c : Nat) (L : List Tpl) (t : Int) (ht : t < 0 ∨ L.length ≤ t) (va : Option Addr) (vc : Nat) (s : List Vl) (k : Int) (w : World) (hT : Tab w)
    (h : TplsIs w a c L) (hv : VlsIs w va vc s) (hg1 : greatB L = false) (hs : s.length ≤ 30) :
    Calls Tryd.prog 4 #[.slice a L.length c, .int .i64 t, .slice va s.length vc, .int .i64 k] w fun e w' => e = .returned (.bool true) ∧ Below w.heap.size w w' := by
  have G1 := great_any a c L w h
  rw [hg1] at G1
  have F := fits_any t a c L va vc s w h hv
  rw [fits_out ht] at F
  have HG := hide G1
  have HF := hide F
  have HK := hide fun V (hV : Below w.heap.size w V) => known_any V (hT.below hV)
  have ds : (s.length : Int) ≤ 30 := by omega
  have ds' : decide ((30 : Int) < s.length) = false := by simp; omega
  have hll := h.1.len
  clear hT h hv G1 F hg1 hs
  by_cases h0 : t < 0
  · clear ht
    go_enter Tryd.func4, Tryd.ntmps4
    go_wp2_with fail
    (with_reducible refine HG.out.mono ?_)
    rintro e U ⟨rfl, rfl⟩
    go_wp2_with fail
    (with_reducible refine HF.out.mono ?_)
    rintro e U0 ⟨rfl, hu0⟩
    have C0 := hide hu0
    clear hu0
    go_wp2_with fail
    (with_reducible refine (HK.out U0 C0.out).mono ?_)
    rintro e U1 ⟨rfl, hu1⟩
    have C1 := hide (C0.out.trans (hu1.mono C0.out.size))
    clear hu1
    go_wp2
    go_ret
    exact ⟨rfl, C1.out⟩
  · have d0 : decide (t < 0) = false := by simpa using h0
    have d1 : (L.length : Int) ≤ t := by omega
    clear ht h0
    go_enter Tryd.func4, Tryd.ntmps4
    go_wp2_with fail
    (with_reducible refine HG.out.mono ?_)
    rintro e U ⟨rfl, rfl⟩
    go_wp2_with fail
    (with_reducible refine HF.out.mono ?_)
    rintro e U0 ⟨rfl, hu0⟩
    have C0 := hide hu0
    clear hu0
    go_wp2_with fail
    (with_reducible refine (HK.out U0 C0.out).mono ?_)
    rintro e U1 ⟨rfl, hu1⟩
    have C1 := hide (C0.out.trans (hu1.mono C0.out.size))
    clear hu1
    go_wp2
    go_ret
    exact ⟨rfl, C1.out⟩

theorem nulls_walk (a : Option Addr) (c : Nat) (L : List Tpl) (t : Int) (va : Option Addr) (vc : Nat) (s : List Vl) (k : Int) (w : World) (hT : Tab w)
    (h : TplsIs w a c L) (hv : VlsIs w va vc s) (hnil : va = none → s.length = 0 ∧ vc = 0) :
    Calls Tryd.prog 4 #[.slice a L.length c, .int .i64 t, .slice va s.length vc, .int .i64 k] w fun e w' => e = .returned (.bool true) ∧ Below w.heap.size w w' := by
  by_cases hok : greatB L = false ∧ s.length ≤ 30
  · by_cases ht : t < 0 ∨ L.length ≤ t
    · exact nulls_out a c L t ht va vc s k w hT h hv hok.1 hok.2
    · obtain ⟨j, rfl⟩ : ∃ j : Nat, t = j := ⟨t.toNat, by omega⟩
      exact nulls_mid a c L j (by omega) va vc s k w hT h hv hnil hok.1 hok.2
  · have HG := hide (great_any a c L w h)
    have HK := hide (known_any w hT)
    have hvl := hv.1.len
    obtain ⟨q, hq⟩ : ∃ q, greatB L = q := ⟨_, rfl⟩
    rw [hq] at HG hok
    clear h hv hT hnil hq
    cases q
    · have ds : (30 : Int) < s.length := by
        simp only [true_and] at hok
        omega
      clear hok
      go_enter Tryd.func4, Tryd.ntmps4
      go_wp2_with fail
      (with_reducible refine HG.out.mono ?_)
      rintro e U ⟨rfl, rfl⟩
      go_wp2_with fail
      (with_reducible refine HK.out.mono ?_)
      rintro e U1 ⟨rfl, hu1⟩
      go_wp2
      go_ret
      exact ⟨rfl, hu1⟩
    · clear hok
      go_enter Tryd.func4, Tryd.ntmps4
      go_wp2_with fail
      (with_reducible refine HG.out.mono ?_)
      rintro e U ⟨rfl, rfl⟩
      go_wp2_with fail
      (with_reducible refine HK.out.mono ?_)
      rintro e U1 ⟨rfl, hu1⟩
      go_wp2
      go_ret
      exact ⟨rfl, hu1⟩
end Go.Proofs.YteealadflekffaaDoor
