/- lexer: number. -/
import Derived.Test.YtkjndabbkfbkaaaGreatDoorLx2
namespace Go.Proofs.YtkjndabbkfbkaaaGreatDoor
open Go Go.RowKit Go.Lib Go.Sort Go.Shelf

/-- How a number's bytes part. -/
theorem num_cases (s : ByteArray) : ∃ n1, spanL digC (dl s) = n1 ∧ n1 ≤ s.size ∧ ((∃ h : n1 + 1 < s.size, s[n1] = 46 ∧ digC s[n1 + 1] = true ∧ numLen (dl s) = n1 + (1 + spanL digC ((dl s).drop (n1 + 1)))) ∨
    (numLen (dl s) = n1 ∧ (¬ n1 + 1 < s.size ∨ (∃ h : n1 + 1 < s.size, s[n1] ≠ 46) ∨ (∃ h : n1 + 1 < s.size, s[n1] = 46 ∧ digC s[n1 + 1] = false)))) := by
  have hle := spanL_le digC (dl s)
  rw [dl_size] at hle
  obtain ⟨n1, hn⟩ : ∃ n1, spanL digC (dl s) = n1 := ⟨_, rfl⟩
  rw [hn] at hle
  refine ⟨n1, hn, hle, ?_⟩
  rw [numLen_eq, hn]
  show (∃ h : n1 + 1 < s.size, s[n1] = 46 ∧ digC s[n1 + 1] = true ∧ numTail n1 ((dl s).drop n1) = n1 + (1 + spanL digC ((dl s).drop (n1 + 1)))) ∨ (numTail n1 ((dl s).drop n1) = n1 ∧ _)
  by_cases h : n1 + 1 < s.size
  · have l1 : n1 < (dl s).length := by rw [dl_size]; omega
    have l2 : n1 + 1 < (dl s).length := by rw [dl_size]; exact h
    have hd : (dl s).drop n1 = s[n1] :: s[n1 + 1] :: (dl s).drop (n1 + 2) := by
      rw [List.drop_eq_getElem_cons l1, List.drop_eq_getElem_cons l2]
      rfl
    have hd1 : (dl s).drop (n1 + 1) = s[n1 + 1] :: (dl s).drop (n1 + 2) := by
      rw [List.drop_eq_getElem_cons l2]
      rfl
    rw [hd, hd1]
    by_cases hc : s[n1] = 46
    · rw [hc]
      by_cases hg : digC s[n1 + 1] = true
      · refine .inl ⟨h, hc, hg, ?_⟩
        show (if digC s[n1 + 1] = true then _ else _) = _
        rw [if_pos hg]
      · refine .inr ⟨?_, .inr (.inr ⟨h, hc, by simpa using hg⟩)⟩
        show (if digC s[n1 + 1] = true then _ else _) = _
        rw [if_neg hg]
    · refine .inr ⟨?_, .inr (.inl ⟨h, hc⟩)⟩
      unfold numTail
      split
      · rename_i e
        injection e with e
        exact absurd e hc
      · rfl
  · refine .inr ⟨?_, .inl h⟩
    unfold numTail
    split
    · rename_i e
      have := congrArg List.length e
      rw [List.length_drop, dl_size] at this
      simp at this
      omega
    · rfl
theorem pos_of_dig {s : ByteArray} {h : 0 < s.size} (hd : digC s[0] = true) : 1 ≤ numLen (dl s) ∧ numLen (dl s) ≤ s.size := by
  have e : dl s = s[0] :: (dl s).drop 1 := by
    have l1 : 0 < (dl s).length := by rw [dl_size]; exact h
    have := List.drop_eq_getElem_cons l1
    rw [List.drop_zero] at this
    exact this
  have := numLen_pos (c := s[0]) (r := (dl s).drop 1) hd
  rw [← e, dl_size] at this
  exact this
set_option maxRecDepth 100000 in
set_option maxHeartbeats 4000000 in
theorem lnumber_any (s : ByteArray) (w : World) (h0 : 0 < s.size) (hd0 : digC s[0] = true) (hs : s.size ≤ 65536) (hR : Rd w) :
    Calls Tryz.prog 66 #[.string s] w (WPost w (numW (dl s))) := by
  obtain ⟨W0, hW0⟩ : ∃ W0, w.alloc (.cells tok0 62) = W0 := ⟨_, rfl⟩
  have hb0 : Below w.heap.size w W0 := by rw [← hW0]; exact (Below.refl w.heap.size w).alloc (Nat.le_refl _) _
  have ht0 := TokAt.new w
  have hz0 : W0.heap.size = w.heap.size + 1 := by rw [← hW0]; simp
  rw [hW0] at ht0
  unfold tok0 at hW0
  obtain ⟨hNp, hNl⟩ := pos_of_dig hd0
  obtain ⟨n1, hn, hn1, hor⟩ := num_cases s
  have hdig : ∀ (V : World) (i : Nat) (hi : i < s.size), Calls Tryz.prog 65 #[.int .u8 (s[i].toNat : Int)] V fun e w' => e = .returned (.bool (digC s[i])) ∧ V = w' := fun V i hi => digit_any s[i] V
  have hwh := while_pure s 65 digC (fun args w => by kernel_rfl) (by omega) 0 W0 (by omega) fun c V => digit_any c V
  rw [List.drop_zero, show ((0 : Nat) : Int) = 0 from rfl] at hwh
  have hwh2 := fun (h : spanL digC (dl s) + 1 ≤ s.size) => while_pure s 65 digC (fun args w => by kernel_rfl) (by omega) (spanL digC (dl s) + 1) W0 h fun c V => digit_any c V
  have hle2 := spanL_le digC ((dl s).drop (spanL digC (dl s) + 1))
  rw [List.length_drop, dl_size] at hle2
  rw [hn] at hwh hwh2 hle2
  obtain ⟨N, hN⟩ : ∃ N, numLen (dl s) = N := ⟨_, rfl⟩
  have hsp : dl (s.extract 0 N) = (dl s).take N := by rw [dl_ext, List.drop_zero, Nat.sub_zero]
  have hP : numW (dl s) = match prsL (dl (s.extract 0 N)) with
      | .ok v => .ok (⟨4, (dl s).take N, v⟩, N)
      | .error e => .error (if e = 9 then 9 else 4) := by 
    unfold numW
    rw [hN, hsp]
    cases prsL ((dl s).take N) <;> rfl
  have hex : (⟨((dl s).take N).toArray⟩ : ByteArray) = s.extract 0 N := dl_inj (by rw [dl_mk, hsp])
  rw [hN] at hor hNp hNl
  rw [hP]
  have hsx : (s.extract 0 N).size ≤ 9223372036854775807 := by rw [← dl_size, hsp, List.length_take, dl_size]; omega
  have hp := parse_any (s.extract 0 N) W0 hsx (hR.below hb0)
  obtain ⟨r, hr⟩ : ∃ r, prsL (dl (s.extract 0 N)) = r := ⟨_, rfl⟩
  have hpe : ∀ q, r = .error q → q = 3 ∨ q = 4 ∨ q = 9 := fun q hq => prsL_err (hr.trans hq)
  rw [hr] at hp ⊢
  have HW0 := hide hW0
  have Hb0 := hide hb0
  have Ht0 := hide ht0
  have Hz0 := hide hz0
  have Hp := hide hp
  have Hpe := hide hpe
  have Hex := hide hex
  have Hdig := hide hdig
  have Hwh := hide hwh
  have Hwh2 := hide hwh2
  have Hh0 := hide h0
  clear hW0 hb0 ht0 hz0 hp hpe hex hdig hwh hwh2 hP hsp hr hN hd0 hR hn h0 hsx
  have jN : (N : Int) ≤ (s.size : Int) := by omega
  go_enter Tryz.func66, Tryz.ntmps66
  go_upto_region 1 with fail
  rw [HW0.out]
  clear HW0
  go_wp2_with fail
  (with_reducible refine Hwh.out.mono ?_)
  rintro e V ⟨rfl, rfl⟩
  clear Hwh
  go_upto_region 2 with fail
  obtain ⟨bb, hbb⟩ : ∃ bb, bb = decide (∃ h : n1 + 1 < s.size, s[n1] = 46 ∧ digC s[n1 + 1] = true) := ⟨_, rfl⟩
  go_cut [25] from 8 to 25 (fun u25 wx => u25 = .bool bb ∧ wx = W0)
  case first =>
    rcases hor with ⟨hlt, hc, hg, hNe⟩ | ⟨hNe, hlt | ⟨hlt, hc⟩ | ⟨hlt, hc, hg⟩⟩
    · have hl1 : n1 < s.size := by omega
      have hdg := Hdig.out W0 (n1 + 1) hlt
      rw [hg] at hdg
      have hb1 : bb = true := by rw [hbb]; exact decide_eq_true ⟨hlt, hc, hg⟩
      subst hb1
      have i1 : (n1 : Int) + 1 < (s.size : Int) := by omega
      have i2 : decide ((n1 : Int) + 1 < (s.size : Int)) = true := by simp; omega
      have i3 : (n1 : Int) < (s.size : Int) := by omega
      have i4 : (0 : Int) ≤ (n1 : Int) := by omega
      have i5 : ((s[n1].toNat : Int) == 46) = true := by rw [hc]; rfl
      have e2 : ((n1 : Int) + 1).toNat = n1 + 1 := by omega
      have Hdg := hide hdg
      clear hdg hc hg Hdig Hwh2 hNe hbb hle2
      go_wp2_with fail
      (with_reducible refine Hdg.out.mono ?_)
      rintro e V ⟨rfl, rfl⟩
      go_wp2
      go_meet
      case rel => exact ⟨rfl, rfl⟩
    · have i2 : decide ((n1 : Int) + 1 < (s.size : Int)) = false := by simp; omega
      have hb1 : bb = false := by rw [hbb]; exact decide_eq_false fun h => hlt h.1
      subst hb1
      clear hlt Hdig Hwh2 hle2 hNe hbb
      go_wp2
      go_meet
      case rel => exact ⟨rfl, rfl⟩
    · have i2 : decide ((n1 : Int) + 1 < (s.size : Int)) = true := by simp; omega
      have hl1 : n1 < s.size := by omega
      have i3 : (n1 : Int) < (s.size : Int) := by omega
      have i5 : ((s[n1].toNat : Int) == 46) = false := by
        have : s[n1].toNat ≠ 46 := fun e => hc (UInt8.toNat_inj.1 e)
        simp
        omega
      have hb1 : bb = false := by rw [hbb]; exact decide_eq_false fun h => hc h.2.1
      subst hb1
      have i4 : (0 : Int) ≤ (n1 : Int) := by omega
      clear hc Hdig Hwh2 hle2 hNe hbb
      go_wp2
      go_meet
      case rel => exact ⟨rfl, rfl⟩
    · have i2 : decide ((n1 : Int) + 1 < (s.size : Int)) = true := by simp; omega
      have hl1 : n1 < s.size := by omega
      have i1 : (n1 : Int) + 1 < (s.size : Int) := by omega
      have i3 : (n1 : Int) < (s.size : Int) := by omega
      have i5 : ((s[n1].toNat : Int) == 46) = true := by rw [hc]; rfl
      have hb1 : bb = false := by rw [hbb]; exact decide_eq_false fun ⟨_, _, h3⟩ => absurd (hg.symm.trans h3) (by simp)
      subst hb1
      have hdg := Hdig.out W0 (n1 + 1) hlt
      rw [hg] at hdg
      have e2 : ((n1 : Int) + 1).toNat = n1 + 1 := by omega
      have i4 : (0 : Int) ≤ (n1 : Int) := by omega
      have Hdg := hide hdg
      clear hc hg hdg Hdig Hwh2 hle2 hNe hbb
      go_wp2_with fail
      (with_reducible refine Hdg.out.mono ?_)
      rintro e V ⟨rfl, rfl⟩
      go_wp2
      go_meet
      case rel => exact ⟨rfl, rfl⟩
  case rest =>
  obtain ⟨rfl, rfl⟩ := hcut
  go_upto_if 25 with fail
  go_cut [3] from 26 to 32 (fun u3 wx => u3 = .int .i64 N ∧ wx = wc)
  case first =>
    cases bb with
    | true =>
      obtain ⟨hlt, hc, hg⟩ := of_decide_eq_true hbb.symm
      have hNe : N = n1 + (1 + spanL digC ((dl s).drop (n1 + 1))) := by
        rcases hor with ⟨_, _, _, hNe⟩ | ⟨_, h | ⟨_, h⟩ | ⟨_, _, h⟩⟩
        · exact hNe
        · exact absurd hlt h
        · exact absurd hc h
        · rw [hg] at h; cases h
      obtain ⟨k, hk⟩ : ∃ k, spanL digC ((dl s).drop (n1 + 1)) = k := ⟨_, rfl⟩
      have hw2 := Hwh2.out (by omega)
      rw [hk] at hw2 hle2 hNe
      have e1 : ((n1 + 1 : Nat) : Int) = (n1 : Int) + 1 := by omega
      have e3 : (n1 : Int) + (1 + (k : Int)) = (N : Int) := by omega
      rw [e1] at hw2
      have Hw2 := hide hw2
      have He3 := hide e3
      clear hw2 hc hg hk e1 e3 Hdig Hwh2 hor hbb
      go_wp2_with fail
      (with_reducible refine Hw2.out.mono ?_)
      rintro e V ⟨rfl, rfl⟩
      go_wp2
      go_meet
      case rel => exact ⟨by rw [← He3.out], rfl⟩
    | false =>
      have hNe : N = n1 := by
        rcases hor with ⟨h1, h2, h3, _⟩ | ⟨h, _⟩
        · exact absurd ⟨h1, h2, h3⟩ (of_decide_eq_false hbb.symm)
        · exact h
      have HNe := hide hNe
      clear hNe hor hbb Hdig Hwh2 hle2
      go_wp2
      go_meet
      case rel => exact ⟨by rw [HNe.out], rfl⟩
  case rest =>
    obtain ⟨rfl, rfl⟩ := hcut
    clear hor Hdig Hwh2 hle2 hn1 hbb
    go_wp2_with fail
    (with_reducible refine Hp.out.mono ?_)
    rintro e V ⟨hb, he⟩
    obtain ⟨c0, c1, c2, c3, c4, c5, c6, fz⟩ := Ht0.out.below hb
    have HB := hide (Hb0.out.trans (hb.mono (by rw [Hz0.out]; omega)))
    have hz : w.heap.size < V.heap.size := by have := hb.size; have := Hz0.out; omega
    cases r with
    | ok v =>
      obtain ⟨vk, vn, vs⟩ := v
      simp only at he
      subst he
      have hT := (TokAt.set7 ⟨c0, c1, c2, c3, c4, c5, c6, fz⟩ 4 (s.extract 0 N) vk vn ⟨vs.toArray⟩ 0 0).below (tail_below _ (.cells #[.int .u8 vk, .int .i64 vn, .string ⟨vs.toArray⟩] 32))
      have hB2 := (below_set7 HB.out (Nat.le_refl _) 4 (s.extract 0 N) vk vn ⟨vs.toArray⟩ 0 0).trans ((tail_below _ (.cells #[.int .u8 vk, .int .i64 vn, .string ⟨vs.toArray⟩] 32)).mono (by rw [set7_size]; omega))
      obtain ⟨Z, hZ⟩ : ∃ Z, ((set7 V w.heap.size 4 (s.extract 0 N) vk vn ⟨vs.toArray⟩ 0 0).alloc (.cells #[.int .u8 vk, .int .i64 vn, .string ⟨vs.toArray⟩] 32)).drew = Z := ⟨_, rfl⟩
      rw [hZ] at hT hB2
      unfold set7 at hZ
      have HT := hide hT
      have HB2 := hide hB2
      have HZ := hide hZ
      clear Hp Hpe Ht0 Hb0 Hz0 hb hT hB2 hZ HB
      go_wp2_with fail
      go_region
      all_goals
        rw [HZ.out]
        obtain ⟨d0, d1, d2, d3, d4, d5, d6, _⟩ := HT.out
        clear c0 c1 c2 c3 c4 c5 c6 fz
        go_wp2
        refine bodyPost_ret (v := .tuple #[.agg #[.int .u8 4, .string (s.extract 0 N), .int .u8 vk, .int .i64 vn, .string ⟨vs.toArray⟩, .int .i64 0, .int .i64 0], .int .i64 N, .int .i64 0]) (by simp [results, Tryz.results66, go_sem, *]) rfl ?_
        exact ⟨HB2.out, by rw [← Hex.out]; rfl⟩
    | error q =>
      simp only at he
      subst he
      have hq := Hpe.out q rfl
      have hT := (TokAt.set7 ⟨c0, c1, c2, c3, c4, c5, c6, fz⟩ 4 (s.extract 0 N) 0 0 ⟨#[]⟩ 0 0).below (tail_below _ (.cells #[.int .u8 0, .int .i64 0, .string ⟨#[]⟩] 32))
      have hB2 := (below_set7 HB.out (Nat.le_refl _) 4 (s.extract 0 N) 0 0 ⟨#[]⟩ 0 0).trans ((tail_below _ (.cells #[.int .u8 0, .int .i64 0, .string ⟨#[]⟩] 32)).mono (by rw [set7_size]; omega))
      obtain ⟨Z, hZ⟩ : ∃ Z, ((set7 V w.heap.size 4 (s.extract 0 N) 0 0 ⟨#[]⟩ 0 0).alloc (.cells #[.int .u8 0, .int .i64 0, .string ⟨#[]⟩] 32)).drew = Z := ⟨_, rfl⟩
      rw [hZ] at hT hB2
      unfold set7 at hZ
      have HT := hide hT
      have HB2 := hide hB2
      have HZ := hide hZ
      clear Hp Hpe Ht0 Hb0 Hz0 hb hT hB2 hZ HB
      rcases hq with rfl | rfl | rfl
      · go_wp2_with fail
        go_region
        all_goals
          rw [HZ.out]
          obtain ⟨d0, d1, d2, d3, d4, d5, d6, _⟩ := HT.out
          clear c0 c1 c2 c3 c4 c5 c6 fz
          go_wp2
          refine bodyPost_ret (v := .tuple #[.agg #[.int .u8 4, .string (s.extract 0 N), .int .u8 0, .int .i64 0, .string ⟨#[]⟩, .int .i64 0, .int .i64 0], .int .i64 N, .int .i64 4]) (by simp [results, Tryz.results66, go_sem, *]) rfl ?_
          exact ⟨HB2.out, ⟨4, (dl s).take N, (0, 0, [])⟩, _, by rw [← Hex.out]; rfl⟩
      · go_wp2_with fail
        go_region
        all_goals
          rw [HZ.out]
          obtain ⟨d0, d1, d2, d3, d4, d5, d6, _⟩ := HT.out
          clear c0 c1 c2 c3 c4 c5 c6 fz
          go_wp2
          refine bodyPost_ret (v := .tuple #[.agg #[.int .u8 4, .string (s.extract 0 N), .int .u8 0, .int .i64 0, .string ⟨#[]⟩, .int .i64 0, .int .i64 0], .int .i64 N, .int .i64 4]) (by simp [results, Tryz.results66, go_sem, *]) rfl ?_
          exact ⟨HB2.out, ⟨4, (dl s).take N, (0, 0, [])⟩, _, by rw [← Hex.out]; rfl⟩
      · go_wp2_with fail
        go_region
        all_goals
          rw [HZ.out]
          obtain ⟨d0, d1, d2, d3, d4, d5, d6, _⟩ := HT.out
          clear c0 c1 c2 c3 c4 c5 c6 fz
          go_wp2
          refine bodyPost_ret (v := .tuple #[.agg #[.int .u8 4, .string (s.extract 0 N), .int .u8 0, .int .i64 0, .string ⟨#[]⟩, .int .i64 0, .int .i64 0], .int .i64 N, .int .i64 9]) (by simp [results, Tryz.results66, go_sem, *]) rfl ?_
          exact ⟨HB2.out, ⟨4, (dl s).take N, (0, 0, [])⟩, _, by rw [← Hex.out]; rfl⟩
end Go.Proofs.YtkjndabbkfbkaaaGreatDoor
