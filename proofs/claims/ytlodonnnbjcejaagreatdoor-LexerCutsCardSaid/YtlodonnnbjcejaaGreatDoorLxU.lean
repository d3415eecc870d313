/- LexerCuts: the walk. -/
import Derived.Test.YtlodonnnbjcejaaGreatDoorLxJ
namespace Go.Proofs.YtlodonnnbjcejaaGreatDoor
open Go Go.RowKit Go.Lib Go.Sort Go.Shelf

theorem u64_idx6 (k : Int) (n : Nat) (h : 0 < n) : ∃ j : Nat, j < n ∧ (IntKind.u64.wrap k).tmod (n : Int) = (j : Int) := by
  have h0 : 0 ≤ IntKind.u64.wrap k := by
    simp [IntKind.wrap, IntKind.signed, IntKind.bits]
    omega
  obtain ⟨u, hu⟩ : ∃ u : Nat, IntKind.u64.wrap k = (u : Int) := ⟨(IntKind.u64.wrap k).toNat, by omega⟩
  refine ⟨u % n, Nat.mod_lt _ h, ?_⟩
  rw [hu]
  rfl
theorem count_step {l : List UInt8} {m : Nat} (h : m < l.length) : (l.take (m + 1)).count 10 = (l.take m).count 10 + (if l[m] = 10 then 1 else 0) := by
  rw [List.take_succ_eq_append_getElem h, List.count_append]
  by_cases e : l[m] = 10
  · rw [if_pos e, e]; rfl
  · rw [if_neg e, List.count_cons_of_ne e]
    rfl
theorem count_mono {l : List UInt8} {m p : Nat} (h : m ≤ p) : (l.take m).count 10 ≤ (l.take p).count 10 := by
  have e : l.take m = (l.take p).take m := by rw [List.take_take, Nat.min_eq_left h]
  rw [e]
  conv => rhs; rw [← List.take_append_drop m (l.take p), List.count_append]
  omega
/-- Where a word's line begins. -/
theorem cut_at {l : List UInt8} {xs : List Tkn} (h : lexL l = .ok xs) {j : Nat} (hj : j < xs.length) : ∃ i p, i < l.length ∧ p ≤ i ∧ xs[j].line = 1 + ((l.take p).count 10 : Nat) ∧ xs[j].col = 1 + ((i - p : Nat) : Int) ∧
    (∀ m, m < p → (l.take m).count 10 < (l.take p).count 10) ∧ lexL (l.take i) = .ok (xs.take j) := by
  obtain ⟨i, hi, ha, hc⟩ := LX_cut _ l 1 1 xs j xs[j] (Nat.le_refl _) h (List.getElem?_eq_getElem hj)
  obtain ⟨p, hp, h1, _, h2⟩ := adv_line (l.take i) 1 1
  have hlen : (l.take i).length = i := by rw [List.length_take]; omega
  rw [hlen] at hp h2
  rw [ha] at h1 h2
  have et : (l.take i).take p = l.take p := by rw [List.take_take, Nat.min_eq_left hp]
  rw [et] at h1
  refine ⟨i, p, hi, hp, h1, ?_, fun m hm => ?_, hc⟩
  · rcases h2 with ⟨rfl, h2⟩ | ⟨_, _, h2⟩
    · exact h2
    · exact h2
  · rcases h2 with ⟨rfl, h2⟩ | ⟨hp1, hg, _⟩
    · omega
    · have hpl : p - 1 < l.length := by omega
      have hge : l[p - 1] = 10 := by
        have e : (l.take i)[p - 1]? = l[p - 1]? := List.getElem?_take_of_lt (by omega)
        rw [hg, List.getElem?_eq_getElem hpl] at e
        injection e with e
        exact e.symm
      have hs := count_step (l := l) hpl
      rw [if_pos hge, show p - 1 + 1 = p by omega] at hs
      have := count_mono (l := l) (show m ≤ p - 1 by omega)
      omega
theorem TkIs.take {w : World} {b c : Nat} {xs : List Tkn} (h : TkIs w (.slice (some ⟨b, 0, none⟩) xs.length c) xs) {j : Nat} (hj : j ≤ xs.length) : TkIs w (.slice (some ⟨b, 0, none⟩) j c) (xs.take j) := by
  have hl : (xs.take j).length = j := by rw [List.length_take]; omega
  rcases h with ⟨e, _⟩ | ⟨b', c', e, h4, h2, h3⟩
  · cases e
  · cases e
    refine .inr ⟨b, c, by rw [hl], by omega, h2, fun q u hq => h3 q u ?_⟩
    have e : tflat xs = tflat (xs.take j) ++ tflat (xs.drop j) := by rw [← tflat_append, List.take_append_drop]
    rw [e, List.getElem?_append_left (List.getElem?_eq_some_iff.1 hq).1]
    exact hq
set_option maxRecDepth 100000 in
set_option maxHeartbeats 8000000 in
theorem cuts_ok (s : ByteArray) (k : Int) (w : World) (hR : Rd w) (hs : s.size ≤ 1500) {xs : List Tkn} (h : lexL (dl s) = .ok xs) (hx : 0 < xs.length) :
    Calls Tryz.prog 5 #[.string s, .int .i64 k] w fun e w' => e = .returned (.bool true) ∧ Below w.heap.size w w' := by
  have hxl := (LX_bytes _ (dl s) 1 1 xs (Nat.le_refl _) h).2
  rw [dl_size] at hxl
  obtain ⟨j, hj, hje⟩ := u64_idx6 k xs.length hx
  obtain ⟨i, p, hi, hp, hln, hcl, hlt, hcut⟩ := cut_at h hj
  rw [dl_size] at hi
  have hsx : dl (s.extract 0 i) = (dl s).take i := by rw [dl_ext, List.drop_zero, Nat.sub_zero]
  rw [← hsx] at hcut
  have hsz : (s.extract 0 i).size ≤ 65536 := by rw [← dl_size, hsx, List.length_take, dl_size]; omega
  have hcp : ((dl s).take p).count 10 ≤ 1500 := by
    have h1 := List.count_le_length (a := (10 : UInt8)) (l := (dl s).take p)
    rw [List.length_take, dl_size] at h1
    omega
  have L1 := hide (lex_ok w (by omega) hR h)
  have HR := hide hR
  have Hcut := hide hcut
  have Hlt := hide hlt
  have Hln := hide hln
  have Hcl := hide hcl
  have Hsz := hide hsz
  have i1 : decide ((1500 : Int) < (s.size : Int)) = false := by simp; omega
  have i2 : ((xs.length : Int) == 0) = false := beq_eq_false_iff_ne.2 (by omega)
  have i3 : (0 : Int) < (xs.length : Int) := by omega
  have i4 : ((xs.length : Int) != 0) = true := bne_iff_ne.2 (by omega)
  have j1 : (j : Int) < (xs.length : Int) := by omega
  clear hR hcut hlt h hln hcl hsx hsz
  go_enter Tryz.func5, Tryz.ntmps5
  go_wp2_with fail
  (with_reducible refine L1.out.mono ?_)
  rintro e V1 ⟨v1, rfl, hrow1, hb1⟩
  have hk1 := TkIs.of_row hrow1
  obtain ⟨g, c, rfl, hg, c0, c1, c2, c3, c4, c5, c6⟩ := hk1.at hj
  have hb1' := (Below.refl V1.heap.size V1).alloc (Nat.le_refl _) (.cells #[.int .i64 0, .int .i64 0] 32)
  obtain ⟨W1, hW1⟩ : ∃ W1, V1.alloc (.cells #[.int .i64 0, .int .i64 0] 32) = W1 := ⟨_, rfl⟩
  rw [hW1] at hb1'
  have hB1 : Below w.heap.size w W1 := hb1.trans (hb1'.mono hb1.size)
  have hT1 := hk1.below hb1'
  have d5 := (World.cell?_of_block (w := V1) (w' := W1) (a := ⟨g, j * 7 + 5, none⟩) (hb1'.block _ hg)).trans c5
  have d6 := (World.cell?_of_block (w := V1) (w' := W1) (a := ⟨g, j * 7 + 6, none⟩) (hb1'.block _ hg)).trans c6
  rw [Hln.out] at d5
  rw [Hcl.out] at d6
  have hcap : xs.length ≤ c := by
    rcases hk1 with ⟨e, _⟩ | ⟨b', c', e, h4, _, _⟩
    · cases e
    · cases e
      exact h4
  have HW1 := hide hW1
  have HB1 := hide hB1
  have HT1 := hide hT1
  clear hW1 hB1 hT1 hk1 hrow1 hb1 hb1' L1 c0 c1 c2 c3 c4 c5 c6 hg
  obtain ⟨cp, hcpe⟩ : ∃ cp, ((dl s).take p).count 10 = cp := ⟨_, rfl⟩
  rw [hcpe] at d5 hcp Hlt
  have Hcpe := hide hcpe
  obtain ⟨T, hT⟩ : ∃ T : Int, 1 + (cp : Int) = T := ⟨_, rfl⟩
  obtain ⟨C, hC⟩ : ∃ C : Int, 1 + ((i - p : Nat) : Int) = C := ⟨_, rfl⟩
  rw [hT] at d5
  rw [hC] at d6
  have hTb : T ≤ 1501 ∧ 1 ≤ T := by omega
  have hCb : C ≤ 1501 ∧ 1 ≤ C := by omega
  obtain ⟨hT1, hT2⟩ := hTb
  obtain ⟨hC1, hC2⟩ := hCb
  have hpb : (p : Int) ≤ 1500 := by omega
  have HT := hide hT
  have HC := hide hC
  clear hcpe hT hC
  go_upto_region 4 with fail
  rw [HW1.out]
  go_wp2
  go_loopw [8, 9] (fun v8 v9 wr => ∃ m : Nat, m ≤ p ∧ v8 = .int .i64 m ∧ (∃ y : Int, 1 ≤ y ∧ y ≤ 1501 ∧ v9 = .int .i64 y ∧ Hid (1 + ((((dl s).take m).count 10 : Nat) : Int) = y)) ∧ Hid (W1 = wr)) (fun v8 _ _ => p - (intOf v8).toNat)
  case atStart => exact ⟨0, Nat.zero_le _, rfl, ⟨1, by omega, by omega, rfl, rfl⟩, rfl⟩
  case round =>
    obtain ⟨m, hm, rfl, ⟨y, hy1, hy2, rfl, hce⟩, hq⟩ := hrel
    obtain rfl := hq.out
    by_cases hmp : m < p
    · have hl := Hlt.out m hmp
      have hyT : y < T := by have := hce.out; have := HT.out; omega
      have k1 : decide (y < T) = true := by simpa using hyT
      have k2 : decide ((m : Int) < (s.size : Int)) = true := by simp; omega
      have k3 : (m : Int) < (s.size : Int) := by omega
      have k0 : (0 : Int) ≤ (m : Int) := by omega
      have hms : m < s.size := by omega
      have hst := count_step (l := dl s) (m := m) (by rw [dl_size]; exact hms)
      have hgt : (dl s)[m]'(by rw [dl_size]; exact hms) = s[m] := rfl
      rw [hgt] at hst
      by_cases h10 : s[m] = 10
      · have k4 : ((s[m].toNat : Int) == 10) = true := by rw [h10]; rfl
        rw [if_pos h10] at hst
        have Hst := hide (show 1 + ((((dl s).take (m + 1)).count 10 : Nat) : Int) = y + 1 by have := hce.out; omega)
        clear hst hl h10 hce hgt
        go_wp2
        go_roundw
        case rel => exact ⟨m + 1, by omega, by go_num, ⟨y + 1, by omega, by omega, by go_num, Hst.out⟩, by trivial⟩
        case measure => simp [intOf]; omega
      · have k4 : ((s[m].toNat : Int) == 10) = false := by
          have : s[m].toNat ≠ 10 := fun e => h10 (UInt8.toNat_inj.1 e)
          simp
          omega
        rw [if_neg h10, Nat.add_zero] at hst
        have Hst := hide (show 1 + ((((dl s).take (m + 1)).count 10 : Nat) : Int) = y by have := hce.out; omega)
        clear hst hl h10 hce hgt
        go_wp2
        go_roundw
        case rel => exact ⟨m + 1, by omega, by go_num, ⟨y, hy1, hy2, rfl, Hst.out⟩, by trivial⟩
        case measure => simp [intOf]; omega
    · obtain rfl : m = p := by omega
      have hcc : y = T := by have h1 := hce.out; rw [Hcpe.out] at h1; exact h1.symm.trans HT.out
      subst hcc
      have k1 : decide (y < y) = false := by simp
      have k5 : (m : Int) + (C - 1) = (i : Int) := by have := HC.out; omega
      have k6 : decide ((i : Int) < 0) = false := decide_eq_false (by omega)
      have k7 : decide ((s.size : Int) ≤ (i : Int)) = false := by simp; omega
      have k8 : (i : Int) ≤ (s.size : Int) := by omega
      have k9 : (y != y) = false := by simp
      have L2 := hide (lex_ok W1 Hsz.out (HR.out.below HB1.out) Hcut.out)
      have hjc : (j : Int) ≤ (c : Int) := by omega
      clear hce hmp
      go_wp2_with fail
      (with_reducible refine L2.out.mono ?_)
      rintro e V2 ⟨v2, rfl, hrow2, hb2⟩
      have hk2 := TkIs.of_row hrow2
      obtain ⟨a2, q2, rfl⟩ := hk2.form
      have hjl : (xs.take j).length = j := by rw [List.length_take]; omega
      rw [hjl] at hk2 ⊢
      have hb2' := (Below.refl V2.heap.size V2).alloc (Nat.le_refl _) (.cells #[.int .i64 0, .int .i64 0] 32)
      have hTa := (HT1.out.below hb2).below hb2'
      have hS := same_yes _ _ _ _ false (V2.alloc (.cells #[.int .i64 0, .int .i64 0] 32)) (hk2.below hb2') (TkIs.take hTa (Nat.le_of_lt hj)) rfl (fun _ => rfl) (by omega)
      have hB2 : Below w.heap.size w (V2.alloc (.cells #[.int .i64 0, .int .i64 0] 32)) := (HB1.out.trans (hb2.mono HB1.out.size)).trans (hb2'.mono (Nat.le_trans HB1.out.size hb2.size))
      have HS := hide hS
      have HB2 := hide hB2
      clear hS hB2 hTa hb2 hb2' hk2 hrow2 L2 HT1 HB1 hjl
      go_wp2_with fail
      (with_reducible refine HS.out.mono ?_)
      rintro e V3 ⟨rfl, hb3⟩
      have HB3 := hide (HB2.out.trans (hb3.mono HB2.out.size))
      have K := hide (known06 V3 (HR.out.below HB3.out))
      clear hb3
      go_wp2_with fail
      (with_reducible refine K.out.mono ?_)
      rintro e V4 ⟨rfl, hb4⟩
      have HB4 := hide (HB3.out.trans (hb4.mono HB3.out.size))
      clear hb4
      go_wp2
      go_ret
      exact ⟨rfl, HB4.out⟩
set_option maxRecDepth 100000 in
theorem cuts_walk (s : ByteArray) (k : Int) (w : World) (hR : Rd w) : Calls Tryz.prog 5 #[.string s, .int .i64 k] w fun e w' => e = .returned (.bool true) ∧ Below w.heap.size w w' := by
  by_cases h1 : s.size ≤ 1500
  · cases hl : lexL (dl s) with
    | error p =>
      obtain ⟨x, y, q⟩ := p
      have hq := lex_errq hl
      have L1 := hide (lex_er w (by omega) hR hl)
      have HR := hide hR
      have i1 : decide ((1500 : Int) < (s.size : Int)) = false := by simp; omega
      clear hR h1 hl
      go_enter Tryz.func5, Tryz.ntmps5
      go_wp2_with fail
      (with_reducible refine L1.out.mono ?_)
      rintro e V1 ⟨rfl, hb1⟩
      have HB1 := hide (hb1.alloc hb1.size (.cells #[.int .i64 x, .int .i64 y] 32))
      have K := hide (known06 _ (HR.out.below HB1.out))
      clear hb1 L1
      rcases hq with rfl | rfl
      all_goals
        go_wp2_with fail
        (with_reducible refine K.out.mono ?_)
        rintro e V ⟨rfl, hb⟩
        have HB := hide (HB1.out.trans (hb.mono HB1.out.size))
        clear hb
        go_wp2
        go_ret
        exact ⟨rfl, HB.out⟩
    | ok xs =>
      by_cases hx : 0 < xs.length
      · exact cuts_ok s k w hR h1 hl hx
      · obtain rfl : xs = [] := List.eq_nil_of_length_eq_zero (by omega)
        have L1 := hide (lex_ok w (by omega) hR hl)
        have HR := hide hR
        have i1 : decide ((1500 : Int) < (s.size : Int)) = false := by simp; omega
        clear hR h1 hl hx
        go_enter Tryz.func5, Tryz.ntmps5
        go_wp2_with fail
        (with_reducible refine L1.out.mono ?_)
        rintro e V1 ⟨v1, rfl, hrow1, hb1⟩
        obtain ⟨a1, q1, rfl⟩ := row_form hrow1
        have HB1 := hide (hb1.alloc hb1.size (.cells #[.int .i64 0, .int .i64 0] 32))
        have K := hide (known06 _ (HR.out.below HB1.out))
        clear hb1 L1 hrow1
        rw [List.length_nil]
        go_wp2_with fail
        (with_reducible refine K.out.mono ?_)
        rintro e V ⟨rfl, hb⟩
        have HB := hide (HB1.out.trans (hb.mono HB1.out.size))
        clear hb
        go_wp2
        go_ret
        exact ⟨rfl, HB.out⟩
  · have i1 : decide ((1500 : Int) < (s.size : Int)) = true := by simp; omega
    have K := hide (known06 w hR)
    clear h1 hR
    go_enter Tryz.func5, Tryz.ntmps5
    go_wp2_with fail
    (with_reducible refine K.out.mono ?_)
    rintro e V ⟨rfl, hb⟩
    have HB := hide hb
    clear hb
    go_wp2
    go_ret
    exact ⟨rfl, HB.out⟩
end Go.Proofs.YtlodonnnbjcejaaGreatDoor
