/- lexer: word. -/
import Derived.Test.YtkjndabbkfbkaaaGreatDoorLx5
namespace Go.Proofs.YtkjndabbkfbkaaaGreatDoor
open Go Go.RowKit Go.Lib Go.Sort Go.Shelf

set_option maxRecDepth 100000 in
set_option maxHeartbeats 8000000 in
theorem lword_any (s : ByteArray) (w : World) (h0 : 0 < s.size) (hs : s.size ≤ 65536) (hR : Rd w) :
    Calls Tryz.prog 44 #[.string s] w (WPost w (wordL (dl s))) := by
  obtain ⟨W0, hW0⟩ : ∃ W0, w.alloc (.cells tok0 62) = W0 := ⟨_, rfl⟩
  have hb0 : Below w.heap.size w W0 := by rw [← hW0]; exact (Below.refl w.heap.size w).alloc (Nat.le_refl _) _
  have ht0 := TokAt.new w
  rw [hW0] at ht0
  unfold tok0 at hW0
  have hmk := marked_any s W0 (by omega)
  have hlet := letter_any s[0] W0
  have hdig := digit_any s[0] W0
  have hdc : ∃ q, dl s = s[0] :: q := by
    have l1 : 0 < (dl s).length := by rw [dl_size]; exact h0
    have := List.drop_eq_getElem_cons l1
    rw [List.drop_zero] at this
    exact ⟨_, this⟩
  obtain ⟨q, hq⟩ := hdc
  have hql : q.length + 1 = s.size := by rw [← dl_size, hq]; rfl
  have hw : wordL (dl s) = if lowC s[0] then shortW ⟨1, (dl s).take (spanL namC (dl s)), v0⟩ (spanL namC (dl s))
    else if digC s[0] then numW (dl s)
    else if s[0] = 34 then txtW (dl s)
    else if s[0] = 63 then (if markB (dl s) then shortW ⟨2, q.take (spanL namC q), v0⟩ (1 + spanL namC q) else .ok (⟨3, [], v0⟩, 1))
    else if s[0] = 35 ∧ markB (dl s) = true then shortW ⟨6, q.take (spanL namC q), (5, 0, q.take (spanL namC q))⟩ (1 + spanL namC q)
    else signW (dl s) := by rw [hq]; rfl
  have htl : (dl s).tail = q := by rw [hq]; rfl
  rw [htl] at hmk
  have hsz : spanL namC q ≤ q.length := spanL_le _ _
  obtain ⟨own, hown⟩ : ∃ own : ByteArray, (⟨(q.take (spanL namC q)).toArray⟩ : ByteArray) = own := ⟨_, rfl⟩
  have hod : dl own = q.take (spanL namC q) := by rw [← hown]
  have hos : own.size = spanL namC q := by rw [← dl_size, hod, List.length_take]; omega
  have hmk2 : Calls Tryz.prog 62 #[.string s] W0 fun e w' => e = .returned (.tuple #[.string (if markB (dl s) then own else ⟨#[]⟩), .bool (markB (dl s))]) ∧ W0 = w' := by
    refine hmk.mono ?_
    rintro e w' ⟨rfl, rfl⟩
    refine ⟨?_, rfl⟩
    rw [← hown]
    cases markB (dl s) <;> rfl
  have hne : ∀ d : UInt8, s[0] ≠ d → ((s[0].toNat : Int) == (d.toNat : Int)) = false := fun d hd => by
    have : s[0].toNat ≠ d.toNat := fun e => hd (UInt8.toNat_inj.1 e)
    simp
    omega
  obtain ⟨mk, hm⟩ : ∃ mk, markB (dl s) = mk := ⟨_, rfl⟩
  rw [hm] at hw hmk2
  have i0 : (0 : Int) < (s.size : Int) := by omega
  obtain ⟨N, hN⟩ : ∃ N, spanL namC q = N := ⟨_, rfl⟩
  have HW0 := hide hW0
  have Hb0 := hide hb0
  have Ht0 := hide ht0
  have Hmk := hide hmk2
  have Hod := hide hod
  clear hW0 hb0 ht0 hmk hmk2 hm htl hown hod
  by_cases h1 : lowC s[0] = true
  · have hwh := while_pure s 64 namC (fun args w => by kernel_rfl) (by omega) 0 W0 (by omega) fun c V => named_any c V
    rw [List.drop_zero, show ((0 : Nat) : Int) = 0 from rfl] at hwh
    rw [if_pos h1] at hw
    rw [h1] at hlet
    have hle := spanL_le namC (dl s)
    rw [dl_size] at hle
    have hex : (⟨((dl s).take (spanL namC (dl s))).toArray⟩ : ByteArray) = s.extract 0 (spanL namC (dl s)) := dl_inj (by rw [dl_mk, dl_ext, List.drop_zero, Nat.sub_zero])
    obtain ⟨n, hn⟩ : ∃ n, spanL namC (dl s) = n := ⟨_, rfl⟩
    rw [hn] at hwh hw hle hex
    have hlt : ((dl s).take n).length = n := by rw [List.length_take, dl_size]; omega
    have i1 : (n : Int) ≤ (s.size : Int) := by omega
    have Hw := hide hwh
    have HW := hide hw
    have Hlet := hide hlet
    have Hex := hide hex
    have Hlt := hide hlt
    clear hwh hw hlet hdig hne hos hsz hN hn hlt hex hR h1 hq
    cases mk
    all_goals
      go_enter Tryz.func44, Tryz.ntmps44
      go_upto_region 1 with fail
      rw [HW0.out]
      clear HW0
      go_wp2_with fail
      (with_reducible refine Hmk.out.mono ?_)
      rintro e V ⟨rfl, rfl⟩
      clear Hmk
      go_wp2_with fail
      (with_reducible refine Hlet.out.mono ?_)
      rintro e V ⟨rfl, rfl⟩
      clear Hlet
      go_wp2_with fail
      (with_reducible refine Hw.out.mono ?_)
      rintro e V ⟨rfl, rfl⟩
      clear Hw
      obtain ⟨c0, c1, c2, c3, c4, c5, c6, fz⟩ := Ht0.out
      by_cases hlong : 12 < n
      · have k1 : decide ((12 : Int) < (n : Int)) = true := by simp; omega
        have hT := (TokAt.set7 (w := W0) (b := w.heap.size) ⟨c0, c1, c2, c3, c4, c5, c6, fz⟩ 1 (s.extract 0 n) 0 0 ⟨#[]⟩ 0 0).set7 1 (s.extract 0 n) 0 0 ⟨#[]⟩ 0 0
        have hB2 := below_set7 (below_set7 Hb0.out (Nat.le_refl _) 1 (s.extract 0 n) 0 0 ⟨#[]⟩ 0 0) (Nat.le_refl _) 1 (s.extract 0 n) 0 0 ⟨#[]⟩ 0 0
        obtain ⟨Z, hZ⟩ : ∃ Z, set7 (set7 W0 w.heap.size 1 (s.extract 0 n) 0 0 ⟨#[]⟩ 0 0) w.heap.size 1 (s.extract 0 n) 0 0 ⟨#[]⟩ 0 0 = Z := ⟨_, rfl⟩
        rw [hZ] at hT hB2
        unfold set7 at hZ
        have HT := hide hT
        have HB3 := hide hB2
        have HZ := hide hZ
        clear hT hB2 hZ
        go_wp2_with fail
        rw [HZ.out]
        obtain ⟨d0, d1, d2, d3, d4, d5, d6, _⟩ := HT.out
        clear c0 c1 c2 c3 c4 c5 c6 fz
        refine bodyPost_ret (v := .tuple #[.agg #[.int .u8 1, .string (s.extract 0 n), .int .u8 0, .int .i64 0, .string ⟨#[]⟩, .int .i64 0, .int .i64 0], .int .i64 (n : Int), .int .i64 4]) (by simp [results, Tryz.results44, go_sem, *]) rfl ?_
        rw [HW.out]
        unfold shortW
        rw [if_pos (by rw [Hlt.out]; exact hlong)]
        exact ⟨HB3.out, ⟨1, (dl s).take n, v0⟩, _, by rw [← Hex.out]; rfl⟩
      · have k1 : decide ((12 : Int) < (n : Int)) = false := by simp; omega
        have hT := (TokAt.set7 (w := W0) (b := w.heap.size) ⟨c0, c1, c2, c3, c4, c5, c6, fz⟩ 1 (s.extract 0 n) 0 0 ⟨#[]⟩ 0 0).set7 1 (s.extract 0 n) 0 0 ⟨#[]⟩ 0 0
        have hB2 := below_set7 (below_set7 Hb0.out (Nat.le_refl _) 1 (s.extract 0 n) 0 0 ⟨#[]⟩ 0 0) (Nat.le_refl _) 1 (s.extract 0 n) 0 0 ⟨#[]⟩ 0 0
        obtain ⟨Z, hZ⟩ : ∃ Z, set7 (set7 W0 w.heap.size 1 (s.extract 0 n) 0 0 ⟨#[]⟩ 0 0) w.heap.size 1 (s.extract 0 n) 0 0 ⟨#[]⟩ 0 0 = Z := ⟨_, rfl⟩
        rw [hZ] at hT hB2
        unfold set7 at hZ
        have HT := hide hT
        have HB3 := hide hB2
        have HZ := hide hZ
        clear hT hB2 hZ
        go_wp2_with fail
        rw [HZ.out]
        obtain ⟨d0, d1, d2, d3, d4, d5, d6, _⟩ := HT.out
        clear c0 c1 c2 c3 c4 c5 c6 fz
        refine bodyPost_ret (v := .tuple #[.agg #[.int .u8 1, .string (s.extract 0 n), .int .u8 0, .int .i64 0, .string ⟨#[]⟩, .int .i64 0, .int .i64 0], .int .i64 (n : Int), .int .i64 0]) (by simp [results, Tryz.results44, go_sem, *]) rfl ?_
        rw [HW.out]
        unfold shortW
        rw [if_neg (by rw [Hlt.out]; exact hlong)]
        exact ⟨HB3.out, by rw [← Hex.out]; rfl⟩
  rw [if_neg h1] at hw
  have hb1 : lowC s[0] = false := by simpa using h1
  rw [hb1] at hlet
  by_cases h2 : digC s[0] = true
  · rw [if_pos h2] at hw
    rw [h2] at hdig
    have hcl := lnumber_any s W0 h0 h2 hs (hR.below Hb0.out)
    obtain ⟨r, hr⟩ : ∃ r, numW (dl s) = r := ⟨_, rfl⟩
    rw [hr] at hcl hw
    have Hcl := hide hcl
    have HW := hide hw
    have Hlet := hide hlet
    have Hdig := hide hdig
    clear hcl hw hlet hdig hne hos hsz hN hR h1 hq hr h2 hb1
    cases mk
    all_goals
      go_enter Tryz.func44, Tryz.ntmps44
      go_upto_region 1 with fail
      rw [HW0.out]
      clear HW0
      go_wp2_with fail
      (with_reducible refine Hmk.out.mono ?_)
      rintro e V ⟨rfl, rfl⟩
      clear Hmk
      go_wp2_with fail
      (with_reducible refine Hlet.out.mono ?_)
      rintro e V ⟨rfl, rfl⟩
      clear Hlet
      go_wp2_with fail
      (with_reducible refine Hdig.out.mono ?_)
      rintro e V ⟨rfl, rfl⟩
      clear Hdig
      go_wp2_with fail
      (with_reducible refine Hcl.out.mono ?_)
      rintro e V ⟨hb, he⟩
      obtain ⟨c0, c1, c2, c3, c4, c5, c6, fz⟩ := Ht0.out.below hb
      have HBV := hide (Hb0.out.trans (hb.mono Hb0.out.size))
      clear Ht0 hb Hcl
      cases r with
      | ok p =>
        obtain ⟨⟨k, t, vk, vn, vs⟩, n⟩ := p
        simp only [tokV] at he
        subst he
        have hT := TokAt.set7 (w := V) (b := w.heap.size) ⟨c0, c1, c2, c3, c4, c5, c6, fz⟩ k ⟨t.toArray⟩ vk vn ⟨vs.toArray⟩ 0 0
        have hB2 := below_set7 HBV.out (Nat.le_refl _) k ⟨t.toArray⟩ vk vn ⟨vs.toArray⟩ 0 0
        obtain ⟨Z, hZ⟩ : ∃ Z, set7 V w.heap.size k ⟨t.toArray⟩ vk vn ⟨vs.toArray⟩ 0 0 = Z := ⟨_, rfl⟩
        rw [hZ] at hT hB2
        unfold set7 at hZ
        have HT := hide hT
        have HB3 := hide hB2
        have HZ := hide hZ
        clear hT hB2 hZ
        go_wp2_with fail
        rw [HZ.out]
        obtain ⟨d0, d1, d2, d3, d4, d5, d6, _⟩ := HT.out
        clear c0 c1 c2 c3 c4 c5 c6 fz
        refine bodyPost_ret (v := .tuple #[.agg #[.int .u8 k, .string ⟨t.toArray⟩, .int .u8 vk, .int .i64 vn, .string ⟨vs.toArray⟩, .int .i64 0, .int .i64 0], .int .i64 (n : Nat), .int .i64 0]) (by simp [results, Tryz.results44, go_sem, *]) rfl ?_
        rw [HW.out]
        exact ⟨HB3.out, rfl⟩
      | error q =>
        obtain ⟨⟨k, t, vk, vn, vs⟩, n, he⟩ := he
        simp only [tokV] at he
        subst he
        have hT := TokAt.set7 (w := V) (b := w.heap.size) ⟨c0, c1, c2, c3, c4, c5, c6, fz⟩ k ⟨t.toArray⟩ vk vn ⟨vs.toArray⟩ 0 0
        have hB2 := below_set7 HBV.out (Nat.le_refl _) k ⟨t.toArray⟩ vk vn ⟨vs.toArray⟩ 0 0
        obtain ⟨Z, hZ⟩ : ∃ Z, set7 V w.heap.size k ⟨t.toArray⟩ vk vn ⟨vs.toArray⟩ 0 0 = Z := ⟨_, rfl⟩
        rw [hZ] at hT hB2
        unfold set7 at hZ
        have HT := hide hT
        have HB3 := hide hB2
        have HZ := hide hZ
        clear hT hB2 hZ
        go_wp2_with fail
        rw [HZ.out]
        obtain ⟨d0, d1, d2, d3, d4, d5, d6, _⟩ := HT.out
        clear c0 c1 c2 c3 c4 c5 c6 fz
        refine bodyPost_ret (v := .tuple #[.agg #[.int .u8 k, .string ⟨t.toArray⟩, .int .u8 vk, .int .i64 vn, .string ⟨vs.toArray⟩, .int .i64 0, .int .i64 0], .int .i64 n, .int .i64 q]) (by simp [results, Tryz.results44, go_sem, *]) rfl ?_
        rw [HW.out]
        exact ⟨HB3.out, ⟨k, t, (vk, vn, vs)⟩, n, rfl⟩
  rw [if_neg h2] at hw
  have hb2 : digC s[0] = false := by simpa using h2
  rw [hb2] at hdig
  by_cases h3 : s[0] = 34
  · rw [if_pos h3] at hw
    have hcl := ltext_any s W0 h0 hs (hR.below Hb0.out)
    obtain ⟨r, hr⟩ : ∃ r, txtW (dl s) = r := ⟨_, rfl⟩
    rw [hr] at hcl hw
    have j1 : ((s[0].toNat : Int) == 34) = true := by rw [h3]; rfl
    have Hcl := hide hcl
    have HW := hide hw
    have Hlet := hide hlet
    have Hdig := hide hdig
    clear hcl hw hlet hdig hne hos hsz hN hR h1 hq hr h2 hb1 hb2 h3
    cases mk
    all_goals
      go_enter Tryz.func44, Tryz.ntmps44
      go_upto_region 1 with fail
      rw [HW0.out]
      clear HW0
      go_wp2_with fail
      (with_reducible refine Hmk.out.mono ?_)
      rintro e V ⟨rfl, rfl⟩
      clear Hmk
      go_wp2_with fail
      (with_reducible refine Hlet.out.mono ?_)
      rintro e V ⟨rfl, rfl⟩
      clear Hlet
      go_wp2_with fail
      (with_reducible refine Hdig.out.mono ?_)
      rintro e V ⟨rfl, rfl⟩
      clear Hdig
      go_wp2_with fail
      (with_reducible refine Hcl.out.mono ?_)
      rintro e V ⟨hb, he⟩
      obtain ⟨c0, c1, c2, c3, c4, c5, c6, fz⟩ := Ht0.out.below hb
      have HBV := hide (Hb0.out.trans (hb.mono Hb0.out.size))
      clear Ht0 hb Hcl
      cases r with
      | ok p =>
        obtain ⟨⟨k, t, vk, vn, vs⟩, n⟩ := p
        simp only [tokV] at he
        subst he
        have hT := TokAt.set7 (w := V) (b := w.heap.size) ⟨c0, c1, c2, c3, c4, c5, c6, fz⟩ k ⟨t.toArray⟩ vk vn ⟨vs.toArray⟩ 0 0
        have hB2 := below_set7 HBV.out (Nat.le_refl _) k ⟨t.toArray⟩ vk vn ⟨vs.toArray⟩ 0 0
        obtain ⟨Z, hZ⟩ : ∃ Z, set7 V w.heap.size k ⟨t.toArray⟩ vk vn ⟨vs.toArray⟩ 0 0 = Z := ⟨_, rfl⟩
        rw [hZ] at hT hB2
        unfold set7 at hZ
        have HT := hide hT
        have HB3 := hide hB2
        have HZ := hide hZ
        clear hT hB2 hZ
        go_wp2_with fail
        rw [HZ.out]
        obtain ⟨d0, d1, d2, d3, d4, d5, d6, _⟩ := HT.out
        clear c0 c1 c2 c3 c4 c5 c6 fz
        refine bodyPost_ret (v := .tuple #[.agg #[.int .u8 k, .string ⟨t.toArray⟩, .int .u8 vk, .int .i64 vn, .string ⟨vs.toArray⟩, .int .i64 0, .int .i64 0], .int .i64 (n : Nat), .int .i64 0]) (by simp [results, Tryz.results44, go_sem, *]) rfl ?_
        rw [HW.out]
        exact ⟨HB3.out, rfl⟩
      | error q =>
        obtain ⟨⟨k, t, vk, vn, vs⟩, n, he⟩ := he
        simp only [tokV] at he
        subst he
        have hT := TokAt.set7 (w := V) (b := w.heap.size) ⟨c0, c1, c2, c3, c4, c5, c6, fz⟩ k ⟨t.toArray⟩ vk vn ⟨vs.toArray⟩ 0 0
        have hB2 := below_set7 HBV.out (Nat.le_refl _) k ⟨t.toArray⟩ vk vn ⟨vs.toArray⟩ 0 0
        obtain ⟨Z, hZ⟩ : ∃ Z, set7 V w.heap.size k ⟨t.toArray⟩ vk vn ⟨vs.toArray⟩ 0 0 = Z := ⟨_, rfl⟩
        rw [hZ] at hT hB2
        unfold set7 at hZ
        have HT := hide hT
        have HB3 := hide hB2
        have HZ := hide hZ
        clear hT hB2 hZ
        go_wp2_with fail
        rw [HZ.out]
        obtain ⟨d0, d1, d2, d3, d4, d5, d6, _⟩ := HT.out
        clear c0 c1 c2 c3 c4 c5 c6 fz
        refine bodyPost_ret (v := .tuple #[.agg #[.int .u8 k, .string ⟨t.toArray⟩, .int .u8 vk, .int .i64 vn, .string ⟨vs.toArray⟩, .int .i64 0, .int .i64 0], .int .i64 n, .int .i64 q]) (by simp [results, Tryz.results44, go_sem, *]) rfl ?_
        rw [HW.out]
        exact ⟨HB3.out, ⟨k, t, (vk, vn, vs)⟩, n, rfl⟩
  rw [if_neg h3] at hw
  have j1 : ((s[0].toNat : Int) == 34) = false := hne 34 h3
  by_cases h4 : s[0] = 63
  · rw [if_pos h4] at hw
    have j2 : ((s[0].toNat : Int) == 63) = true := by rw [h4]; rfl
    have Hlet := hide hlet
    have Hdig := hide hdig
    cases mk with
    | true =>
      rw [if_pos rfl] at hw
      rw [hN] at hw hos hsz Hod
      have hlt : (q.take N).length = N := by rw [List.length_take]; omega
      have HW := hide hw
      have Hlt := hide hlt
      have hj : (own.size : Int) = (N : Int) := by omega
      have Hj := hide hj
      have Hos := hide hos
      have i2 : (own.size : Int) ≤ 65536 := by omega
      clear hw hlet hdig hne hN hlt hR h1 hq h2 hb1 hb2 h3 h4 hj hos
      go_enter Tryz.func44, Tryz.ntmps44
      go_upto_region 1 with fail
      rw [HW0.out]
      clear HW0
      go_wp2_with fail
      (with_reducible refine Hmk.out.mono ?_)
      rintro e V ⟨rfl, rfl⟩
      clear Hmk
      go_wp2_with fail
      (with_reducible refine Hlet.out.mono ?_)
      rintro e V ⟨rfl, rfl⟩
      clear Hlet
      go_wp2_with fail
      (with_reducible refine Hdig.out.mono ?_)
      rintro e V ⟨rfl, rfl⟩
      clear Hdig
      obtain ⟨c0, c1, c2, c3, c4, c5, c6, fz⟩ := Ht0.out
      by_cases hlong : 12 < N
      · have k1 : decide ((12 : Int) < (own.size : Int)) = true := by have := Hj.out; simp; omega
        have hT := (TokAt.set7 (w := W0) (b := w.heap.size) ⟨c0, c1, c2, c3, c4, c5, c6, fz⟩ 2 own 0 0 ⟨#[]⟩ 0 0).set7 2 own 0 0 ⟨#[]⟩ 0 0
        have hB2 := below_set7 (below_set7 Hb0.out (Nat.le_refl _) 2 own 0 0 ⟨#[]⟩ 0 0) (Nat.le_refl _) 2 own 0 0 ⟨#[]⟩ 0 0
        obtain ⟨Z, hZ⟩ : ∃ Z, set7 (set7 W0 w.heap.size 2 own 0 0 ⟨#[]⟩ 0 0) w.heap.size 2 own 0 0 ⟨#[]⟩ 0 0 = Z := ⟨_, rfl⟩
        rw [hZ] at hT hB2
        unfold set7 at hZ
        have HT := hide hT
        have HB3 := hide hB2
        have HZ := hide hZ
        clear hT hB2 hZ
        go_wp2_with fail
        rw [HZ.out]
        obtain ⟨d0, d1, d2, d3, d4, d5, d6, _⟩ := HT.out
        clear c0 c1 c2 c3 c4 c5 c6 fz
        refine bodyPost_ret (v := .tuple #[.agg #[.int .u8 2, .string own, .int .u8 0, .int .i64 0, .string ⟨#[]⟩, .int .i64 0, .int .i64 0], .int .i64 (1 + (own.size : Int)), .int .i64 4]) (by simp [results, Tryz.results44, go_sem, *]) rfl ?_
        rw [HW.out]
        unfold shortW
        rw [if_pos (by rw [Hlt.out]; exact hlong)]
        exact ⟨HB3.out, ⟨2, q.take N, v0⟩, _, by rw [← mk_dl own, Hod.out]; rfl⟩
      · have k1 : decide ((12 : Int) < (own.size : Int)) = false := by have := Hj.out; simp; omega
        have hT := (TokAt.set7 (w := W0) (b := w.heap.size) ⟨c0, c1, c2, c3, c4, c5, c6, fz⟩ 2 own 0 0 ⟨#[]⟩ 0 0).set7 2 own 0 0 ⟨#[]⟩ 0 0
        have hB2 := below_set7 (below_set7 Hb0.out (Nat.le_refl _) 2 own 0 0 ⟨#[]⟩ 0 0) (Nat.le_refl _) 2 own 0 0 ⟨#[]⟩ 0 0
        obtain ⟨Z, hZ⟩ : ∃ Z, set7 (set7 W0 w.heap.size 2 own 0 0 ⟨#[]⟩ 0 0) w.heap.size 2 own 0 0 ⟨#[]⟩ 0 0 = Z := ⟨_, rfl⟩
        rw [hZ] at hT hB2
        unfold set7 at hZ
        have HT := hide hT
        have HB3 := hide hB2
        have HZ := hide hZ
        clear hT hB2 hZ
        go_wp2_with fail
        rw [HZ.out]
        obtain ⟨d0, d1, d2, d3, d4, d5, d6, _⟩ := HT.out
        clear c0 c1 c2 c3 c4 c5 c6 fz
        refine bodyPost_ret (v := .tuple #[.agg #[.int .u8 2, .string own, .int .u8 0, .int .i64 0, .string ⟨#[]⟩, .int .i64 0, .int .i64 0], .int .i64 (1 + (own.size : Int)), .int .i64 0]) (by simp [results, Tryz.results44, go_sem, *]) rfl ?_
        rw [HW.out]
        unfold shortW
        rw [if_neg (by rw [Hlt.out]; exact hlong)]
        exact ⟨HB3.out, by rw [show (1 : Int) + (own.size : Int) = ((1 + N : Nat) : Int) by (have := Hj.out; omega)]; rw [← mk_dl own, Hod.out]; rfl⟩
    | false =>
      rw [if_neg (by simp)] at hw
      have HW := hide hw
      clear hw hlet hdig hne hN hR h1 hq h2 hb1 hb2 h3 h4 hos hsz
      go_enter Tryz.func44, Tryz.ntmps44
      go_upto_region 1 with fail
      rw [HW0.out]
      clear HW0
      go_wp2_with fail
      (with_reducible refine Hmk.out.mono ?_)
      rintro e V ⟨rfl, rfl⟩
      clear Hmk
      go_wp2_with fail
      (with_reducible refine Hlet.out.mono ?_)
      rintro e V ⟨rfl, rfl⟩
      clear Hlet
      go_wp2_with fail
      (with_reducible refine Hdig.out.mono ?_)
      rintro e V ⟨rfl, rfl⟩
      clear Hdig
      obtain ⟨c0, c1, c2, c3, c4, c5, c6, fz⟩ := Ht0.out
      have hT := TokAt.set7 (w := W0) (b := w.heap.size) ⟨c0, c1, c2, c3, c4, c5, c6, fz⟩ 3 ⟨#[]⟩ 0 0 ⟨#[]⟩ 0 0
      have hB2 := below_set7 Hb0.out (Nat.le_refl _) 3 ⟨#[]⟩ 0 0 ⟨#[]⟩ 0 0
      obtain ⟨Z, hZ⟩ : ∃ Z, set7 W0 w.heap.size 3 ⟨#[]⟩ 0 0 ⟨#[]⟩ 0 0 = Z := ⟨_, rfl⟩
      rw [hZ] at hT hB2
      unfold set7 at hZ
      have HT := hide hT
      have HB3 := hide hB2
      have HZ := hide hZ
      clear hT hB2 hZ
      go_wp2_with fail
      rw [HZ.out]
      obtain ⟨d0, d1, d2, d3, d4, d5, d6, _⟩ := HT.out
      clear c0 c1 c2 c3 c4 c5 c6 fz
      refine bodyPost_ret (v := .tuple #[.agg #[.int .u8 3, .string ⟨#[]⟩, .int .u8 0, .int .i64 0, .string ⟨#[]⟩, .int .i64 0, .int .i64 0], .int .i64 1, .int .i64 0]) (by simp [results, Tryz.results44, go_sem, *]) rfl ?_
      rw [HW.out]
      exact ⟨HB3.out, rfl⟩
  rw [if_neg h4] at hw
  have j2 : ((s[0].toNat : Int) == 63) = false := hne 63 h4
  by_cases h5 : s[0] = 35 ∧ mk = true
  · rw [if_pos h5] at hw
    obtain ⟨h5, rfl⟩ := h5
    have j3 : ((s[0].toNat : Int) == 35) = true := by rw [h5]; rfl
    have Hlet := hide hlet
    have Hdig := hide hdig
    rw [hN] at hw hos hsz Hod
    have hlt : (q.take N).length = N := by rw [List.length_take]; omega
    have HW := hide hw
    have Hlt := hide hlt
    have hj : (own.size : Int) = (N : Int) := by omega
    have Hj := hide hj
    have Hos := hide hos
    have i2 : (own.size : Int) ≤ 65536 := by omega
    clear hw hlet hdig hne hN hlt hR h1 hq h2 hb1 hb2 h3 h4 hj hos h5
    go_enter Tryz.func44, Tryz.ntmps44
    go_upto_region 1 with fail
    rw [HW0.out]
    clear HW0
    go_wp2_with fail
    (with_reducible refine Hmk.out.mono ?_)
    rintro e V ⟨rfl, rfl⟩
    clear Hmk
    go_wp2_with fail
    (with_reducible refine Hlet.out.mono ?_)
    rintro e V ⟨rfl, rfl⟩
    clear Hlet
    go_wp2_with fail
    (with_reducible refine Hdig.out.mono ?_)
    rintro e V ⟨rfl, rfl⟩
    clear Hdig
    obtain ⟨c0, c1, c2, c3, c4, c5, c6, fz⟩ := Ht0.out
    by_cases hlong : 12 < N
    · have k1 : decide ((12 : Int) < (own.size : Int)) = true := by have := Hj.out; simp; omega
      have hT := (TokAt.set7 (w := W0) (b := w.heap.size) ⟨c0, c1, c2, c3, c4, c5, c6, fz⟩ 6 own 5 0 own 0 0).set7 6 own 5 0 own 0 0
      have hB2 := below_set7 (below_set7 Hb0.out (Nat.le_refl _) 6 own 5 0 own 0 0) (Nat.le_refl _) 6 own 5 0 own 0 0
      obtain ⟨Z, hZ⟩ : ∃ Z, set7 (set7 W0 w.heap.size 6 own 5 0 own 0 0) w.heap.size 6 own 5 0 own 0 0 = Z := ⟨_, rfl⟩
      rw [hZ] at hT hB2
      unfold set7 at hZ
      have HT := hide hT
      have HB3 := hide hB2
      have HZ := hide hZ
      clear hT hB2 hZ
      go_wp2_with fail
      rw [HZ.out]
      obtain ⟨d0, d1, d2, d3, d4, d5, d6, _⟩ := HT.out
      clear c0 c1 c2 c3 c4 c5 c6 fz
      refine bodyPost_ret (v := .tuple #[.agg #[.int .u8 6, .string own, .int .u8 5, .int .i64 0, .string own, .int .i64 0, .int .i64 0], .int .i64 (1 + (own.size : Int)), .int .i64 4]) (by simp [results, Tryz.results44, go_sem, *]) rfl ?_
      rw [HW.out]
      unfold shortW
      rw [if_pos (by rw [Hlt.out]; exact hlong)]
      exact ⟨HB3.out, ⟨6, q.take N, (5, 0, q.take N)⟩, _, by rw [← mk_dl own, Hod.out]; rfl⟩
    · have k1 : decide ((12 : Int) < (own.size : Int)) = false := by have := Hj.out; simp; omega
      have hT := (TokAt.set7 (w := W0) (b := w.heap.size) ⟨c0, c1, c2, c3, c4, c5, c6, fz⟩ 6 own 5 0 own 0 0).set7 6 own 5 0 own 0 0
      have hB2 := below_set7 (below_set7 Hb0.out (Nat.le_refl _) 6 own 5 0 own 0 0) (Nat.le_refl _) 6 own 5 0 own 0 0
      obtain ⟨Z, hZ⟩ : ∃ Z, set7 (set7 W0 w.heap.size 6 own 5 0 own 0 0) w.heap.size 6 own 5 0 own 0 0 = Z := ⟨_, rfl⟩
      rw [hZ] at hT hB2
      unfold set7 at hZ
      have HT := hide hT
      have HB3 := hide hB2
      have HZ := hide hZ
      clear hT hB2 hZ
      go_wp2_with fail
      rw [HZ.out]
      obtain ⟨d0, d1, d2, d3, d4, d5, d6, _⟩ := HT.out
      clear c0 c1 c2 c3 c4 c5 c6 fz
      refine bodyPost_ret (v := .tuple #[.agg #[.int .u8 6, .string own, .int .u8 5, .int .i64 0, .string own, .int .i64 0, .int .i64 0], .int .i64 (1 + (own.size : Int)), .int .i64 0]) (by simp [results, Tryz.results44, go_sem, *]) rfl ?_
      rw [HW.out]
      unfold shortW
      rw [if_neg (by rw [Hlt.out]; exact hlong)]
      exact ⟨HB3.out, by rw [show (1 : Int) + (own.size : Int) = ((1 + N : Nat) : Int) by (have := Hj.out; omega)]; rw [← mk_dl own, Hod.out]; rfl⟩
  · rw [if_neg h5] at hw
    have hcl := lsign_any s W0 h0 hs
    obtain ⟨r, hr⟩ : ∃ r, signW (dl s) = r := ⟨_, rfl⟩
    rw [hr] at hcl hw
    have Hcl := hide hcl
    have HW := hide hw
    have Hlet := hide hlet
    have Hdig := hide hdig
    cases mk with
    | true =>
      have j3 : ((s[0].toNat : Int) == 35) = false := hne 35 fun e => h5 ⟨e, rfl⟩
      clear hcl hw hlet hdig hne hos hsz hN hR h1 hq hr h2 hb1 hb2 h3 h4 h5
      go_enter Tryz.func44, Tryz.ntmps44
      go_upto_region 1 with fail
      rw [HW0.out]
      clear HW0
      go_wp2_with fail
      (with_reducible refine Hmk.out.mono ?_)
      rintro e V ⟨rfl, rfl⟩
      clear Hmk
      go_wp2_with fail
      (with_reducible refine Hlet.out.mono ?_)
      rintro e V ⟨rfl, rfl⟩
      clear Hlet
      go_wp2_with fail
      (with_reducible refine Hdig.out.mono ?_)
      rintro e V ⟨rfl, rfl⟩
      clear Hdig
      go_wp2_with fail
      (with_reducible refine Hcl.out.mono ?_)
      rintro e V ⟨hb, he⟩
      obtain ⟨c0, c1, c2, c3, c4, c5, c6, fz⟩ := Ht0.out.below hb
      have HBV := hide (Hb0.out.trans (hb.mono Hb0.out.size))
      clear Ht0 hb Hcl
      cases r with
      | ok p =>
        obtain ⟨⟨k, t, vk, vn, vs⟩, n⟩ := p
        simp only [tokV] at he
        subst he
        have hT := TokAt.set7 (w := V) (b := w.heap.size) ⟨c0, c1, c2, c3, c4, c5, c6, fz⟩ k ⟨t.toArray⟩ vk vn ⟨vs.toArray⟩ 0 0
        have hB2 := below_set7 HBV.out (Nat.le_refl _) k ⟨t.toArray⟩ vk vn ⟨vs.toArray⟩ 0 0
        obtain ⟨Z, hZ⟩ : ∃ Z, set7 V w.heap.size k ⟨t.toArray⟩ vk vn ⟨vs.toArray⟩ 0 0 = Z := ⟨_, rfl⟩
        rw [hZ] at hT hB2
        unfold set7 at hZ
        have HT := hide hT
        have HB3 := hide hB2
        have HZ := hide hZ
        clear hT hB2 hZ
        go_wp2_with fail
        rw [HZ.out]
        obtain ⟨d0, d1, d2, d3, d4, d5, d6, _⟩ := HT.out
        clear c0 c1 c2 c3 c4 c5 c6 fz
        refine bodyPost_ret (v := .tuple #[.agg #[.int .u8 k, .string ⟨t.toArray⟩, .int .u8 vk, .int .i64 vn, .string ⟨vs.toArray⟩, .int .i64 0, .int .i64 0], .int .i64 (n : Nat), .int .i64 0]) (by simp [results, Tryz.results44, go_sem, *]) rfl ?_
        rw [HW.out]
        exact ⟨HB3.out, rfl⟩
      | error q =>
        obtain ⟨⟨k, t, vk, vn, vs⟩, n, he⟩ := he
        simp only [tokV] at he
        subst he
        have hT := TokAt.set7 (w := V) (b := w.heap.size) ⟨c0, c1, c2, c3, c4, c5, c6, fz⟩ k ⟨t.toArray⟩ vk vn ⟨vs.toArray⟩ 0 0
        have hB2 := below_set7 HBV.out (Nat.le_refl _) k ⟨t.toArray⟩ vk vn ⟨vs.toArray⟩ 0 0
        obtain ⟨Z, hZ⟩ : ∃ Z, set7 V w.heap.size k ⟨t.toArray⟩ vk vn ⟨vs.toArray⟩ 0 0 = Z := ⟨_, rfl⟩
        rw [hZ] at hT hB2
        unfold set7 at hZ
        have HT := hide hT
        have HB3 := hide hB2
        have HZ := hide hZ
        clear hT hB2 hZ
        go_wp2_with fail
        rw [HZ.out]
        obtain ⟨d0, d1, d2, d3, d4, d5, d6, _⟩ := HT.out
        clear c0 c1 c2 c3 c4 c5 c6 fz
        refine bodyPost_ret (v := .tuple #[.agg #[.int .u8 k, .string ⟨t.toArray⟩, .int .u8 vk, .int .i64 vn, .string ⟨vs.toArray⟩, .int .i64 0, .int .i64 0], .int .i64 n, .int .i64 q]) (by simp [results, Tryz.results44, go_sem, *]) rfl ?_
        rw [HW.out]
        exact ⟨HB3.out, ⟨k, t, (vk, vn, vs)⟩, n, rfl⟩
    | false =>
      clear hcl hw hlet hdig hos hsz hN hR h1 hq hr h2 hb1 hb2 h3 h4 h5
      by_cases h6 : s[0] = 35
      · have j3 : ((s[0].toNat : Int) == 35) = true := by rw [h6]; rfl
        clear h6 hne
        go_enter Tryz.func44, Tryz.ntmps44
        go_upto_region 1 with fail
        rw [HW0.out]
        clear HW0
        go_wp2_with fail
        (with_reducible refine Hmk.out.mono ?_)
        rintro e V ⟨rfl, rfl⟩
        clear Hmk
        go_wp2_with fail
        (with_reducible refine Hlet.out.mono ?_)
        rintro e V ⟨rfl, rfl⟩
        clear Hlet
        go_wp2_with fail
        (with_reducible refine Hdig.out.mono ?_)
        rintro e V ⟨rfl, rfl⟩
        clear Hdig
        go_wp2_with fail
        (with_reducible refine Hcl.out.mono ?_)
        rintro e V ⟨hb, he⟩
        obtain ⟨c0, c1, c2, c3, c4, c5, c6, fz⟩ := Ht0.out.below hb
        have HBV := hide (Hb0.out.trans (hb.mono Hb0.out.size))
        clear Ht0 hb Hcl
        cases r with
        | ok p =>
          obtain ⟨⟨k, t, vk, vn, vs⟩, n⟩ := p
          simp only [tokV] at he
          subst he
          have hT := TokAt.set7 (w := V) (b := w.heap.size) ⟨c0, c1, c2, c3, c4, c5, c6, fz⟩ k ⟨t.toArray⟩ vk vn ⟨vs.toArray⟩ 0 0
          have hB2 := below_set7 HBV.out (Nat.le_refl _) k ⟨t.toArray⟩ vk vn ⟨vs.toArray⟩ 0 0
          obtain ⟨Z, hZ⟩ : ∃ Z, set7 V w.heap.size k ⟨t.toArray⟩ vk vn ⟨vs.toArray⟩ 0 0 = Z := ⟨_, rfl⟩
          rw [hZ] at hT hB2
          unfold set7 at hZ
          have HT := hide hT
          have HB3 := hide hB2
          have HZ := hide hZ
          clear hT hB2 hZ
          go_wp2_with fail
          rw [HZ.out]
          obtain ⟨d0, d1, d2, d3, d4, d5, d6, _⟩ := HT.out
          clear c0 c1 c2 c3 c4 c5 c6 fz
          refine bodyPost_ret (v := .tuple #[.agg #[.int .u8 k, .string ⟨t.toArray⟩, .int .u8 vk, .int .i64 vn, .string ⟨vs.toArray⟩, .int .i64 0, .int .i64 0], .int .i64 (n : Nat), .int .i64 0]) (by simp [results, Tryz.results44, go_sem, *]) rfl ?_
          rw [HW.out]
          exact ⟨HB3.out, rfl⟩
        | error q =>
          obtain ⟨⟨k, t, vk, vn, vs⟩, n, he⟩ := he
          simp only [tokV] at he
          subst he
          have hT := TokAt.set7 (w := V) (b := w.heap.size) ⟨c0, c1, c2, c3, c4, c5, c6, fz⟩ k ⟨t.toArray⟩ vk vn ⟨vs.toArray⟩ 0 0
          have hB2 := below_set7 HBV.out (Nat.le_refl _) k ⟨t.toArray⟩ vk vn ⟨vs.toArray⟩ 0 0
          obtain ⟨Z, hZ⟩ : ∃ Z, set7 V w.heap.size k ⟨t.toArray⟩ vk vn ⟨vs.toArray⟩ 0 0 = Z := ⟨_, rfl⟩
          rw [hZ] at hT hB2
          unfold set7 at hZ
          have HT := hide hT
          have HB3 := hide hB2
          have HZ := hide hZ
          clear hT hB2 hZ
          go_wp2_with fail
          rw [HZ.out]
          obtain ⟨d0, d1, d2, d3, d4, d5, d6, _⟩ := HT.out
          clear c0 c1 c2 c3 c4 c5 c6 fz
          refine bodyPost_ret (v := .tuple #[.agg #[.int .u8 k, .string ⟨t.toArray⟩, .int .u8 vk, .int .i64 vn, .string ⟨vs.toArray⟩, .int .i64 0, .int .i64 0], .int .i64 n, .int .i64 q]) (by simp [results, Tryz.results44, go_sem, *]) rfl ?_
          rw [HW.out]
          exact ⟨HB3.out, ⟨k, t, (vk, vn, vs)⟩, n, rfl⟩
      · have j3 : ((s[0].toNat : Int) == 35) = false := hne 35 h6
        clear h6 hne
        go_enter Tryz.func44, Tryz.ntmps44
        go_upto_region 1 with fail
        rw [HW0.out]
        clear HW0
        go_wp2_with fail
        (with_reducible refine Hmk.out.mono ?_)
        rintro e V ⟨rfl, rfl⟩
        clear Hmk
        go_wp2_with fail
        (with_reducible refine Hlet.out.mono ?_)
        rintro e V ⟨rfl, rfl⟩
        clear Hlet
        go_wp2_with fail
        (with_reducible refine Hdig.out.mono ?_)
        rintro e V ⟨rfl, rfl⟩
        clear Hdig
        go_wp2_with fail
        (with_reducible refine Hcl.out.mono ?_)
        rintro e V ⟨hb, he⟩
        obtain ⟨c0, c1, c2, c3, c4, c5, c6, fz⟩ := Ht0.out.below hb
        have HBV := hide (Hb0.out.trans (hb.mono Hb0.out.size))
        clear Ht0 hb Hcl
        cases r with
        | ok p =>
          obtain ⟨⟨k, t, vk, vn, vs⟩, n⟩ := p
          simp only [tokV] at he
          subst he
          have hT := TokAt.set7 (w := V) (b := w.heap.size) ⟨c0, c1, c2, c3, c4, c5, c6, fz⟩ k ⟨t.toArray⟩ vk vn ⟨vs.toArray⟩ 0 0
          have hB2 := below_set7 HBV.out (Nat.le_refl _) k ⟨t.toArray⟩ vk vn ⟨vs.toArray⟩ 0 0
          obtain ⟨Z, hZ⟩ : ∃ Z, set7 V w.heap.size k ⟨t.toArray⟩ vk vn ⟨vs.toArray⟩ 0 0 = Z := ⟨_, rfl⟩
          rw [hZ] at hT hB2
          unfold set7 at hZ
          have HT := hide hT
          have HB3 := hide hB2
          have HZ := hide hZ
          clear hT hB2 hZ
          go_wp2_with fail
          rw [HZ.out]
          obtain ⟨d0, d1, d2, d3, d4, d5, d6, _⟩ := HT.out
          clear c0 c1 c2 c3 c4 c5 c6 fz
          refine bodyPost_ret (v := .tuple #[.agg #[.int .u8 k, .string ⟨t.toArray⟩, .int .u8 vk, .int .i64 vn, .string ⟨vs.toArray⟩, .int .i64 0, .int .i64 0], .int .i64 (n : Nat), .int .i64 0]) (by simp [results, Tryz.results44, go_sem, *]) rfl ?_
          rw [HW.out]
          exact ⟨HB3.out, rfl⟩
        | error q =>
          obtain ⟨⟨k, t, vk, vn, vs⟩, n, he⟩ := he
          simp only [tokV] at he
          subst he
          have hT := TokAt.set7 (w := V) (b := w.heap.size) ⟨c0, c1, c2, c3, c4, c5, c6, fz⟩ k ⟨t.toArray⟩ vk vn ⟨vs.toArray⟩ 0 0
          have hB2 := below_set7 HBV.out (Nat.le_refl _) k ⟨t.toArray⟩ vk vn ⟨vs.toArray⟩ 0 0
          obtain ⟨Z, hZ⟩ : ∃ Z, set7 V w.heap.size k ⟨t.toArray⟩ vk vn ⟨vs.toArray⟩ 0 0 = Z := ⟨_, rfl⟩
          rw [hZ] at hT hB2
          unfold set7 at hZ
          have HT := hide hT
          have HB3 := hide hB2
          have HZ := hide hZ
          clear hT hB2 hZ
          go_wp2_with fail
          rw [HZ.out]
          obtain ⟨d0, d1, d2, d3, d4, d5, d6, _⟩ := HT.out
          clear c0 c1 c2 c3 c4 c5 c6 fz
          refine bodyPost_ret (v := .tuple #[.agg #[.int .u8 k, .string ⟨t.toArray⟩, .int .u8 vk, .int .i64 vn, .string ⟨vs.toArray⟩, .int .i64 0, .int .i64 0], .int .i64 n, .int .i64 q]) (by simp [results, Tryz.results44, go_sem, *]) rfl ?_
          rw [HW.out]
          exact ⟨HB3.out, ⟨k, t, (vk, vn, vs)⟩, n, rfl⟩
end Go.Proofs.YtkjndabbkfbkaaaGreatDoor
