/- vtext: decimal, quoted. -/
import Derived.Test.YtkjndabbkfbkaaaGreatDoorRd
namespace Go.Proofs.YtkjndabbkfbkaaaGreatDoor
open Go Go.RowKit Go.Lib Go.Sort Go.Shelf

theorem below_drewN' {B : Nat} {a w : World} (h : Below B a w) (n : Nat) : Below B a (w.drewN n) := ⟨h.os, h.tape, h.output, h.size, h.block⟩
set_option maxRecDepth 100000 in
theorem decimal_any (n : Int) (w : World) (h0 : -9223372036854775808 ≤ n) (h1 : n ≤ 9223372036854775807) (hR : Rd w) :
    Calls Tryz.prog 120 #[.int .i64 n] w fun e w' => e = .returned (.string ⟨(decT n).toArray⟩) ∧ Below w.heap.size w w' := by
  have hf := Tryz.strconv_FormatInt_10 n h0 h1 w hR.tab
  have Hf := hide hf
  clear hf hR
  go_enter Tryz.func120, Tryz.ntmps120
  go_wp2_with fail
  (with_reducible refine Hf.out.mono ?_)
  rintro e W ⟨rfl, k, os, hW⟩
  have hbW : Below w.heap.size w W := by rw [hW]; exact below_grow w k os
  clear hW
  obtain ⟨S, hS⟩ : ∃ S : ByteArray, (⟨(itoa n).toArray⟩ : ByteArray) = S := ⟨_, rfl⟩
  have hSd : dl S = itoa n := by rw [← hS]
  rw [hS]
  clear hS
  have hsz : S.size ≤ 21 := by rw [← dl_size, hSd]; exact itoa_length_le n h0 h1
  obtain ⟨d, hd⟩ : ∃ d, decDigits n.natAbs = d := ⟨_, rfl⟩
  have hd1 : 1 ≤ d.length := by rw [← hd]; exact List.length_pos_iff.2 (decDigits_ne _)
  have hit : itoa n = if n < 0 then 45 :: d else d := by
    rw [← hd]
    unfold itoa
    by_cases h : n < 0
    · rw [if_pos h, if_pos h]
    · rw [if_neg h, if_neg h]
      congr 1
      omega
  have hsg : ∃ sg : ByteArray, ∃ T : ByteArray, dl T = d ∧ T.size ≤ 21 ∧ dl sg = (if n < 0 then [45] else []) ∧ ((n < 0 ∧ sg = ⟨#[45]⟩ ∧ T = S.extract 1 S.size ∧ 1 ≤ S.size) ∨ (¬ n < 0 ∧ sg = ⟨#[]⟩ ∧ T = S)) := by
    by_cases h : n < 0
    · have e : dl S = 45 :: d := by rw [hSd, hit, if_pos h]
      refine ⟨⟨#[45]⟩, S.extract 1 S.size, by rw [dl_ext_end, e]; rfl, ?_, by rw [if_pos h], .inl ⟨h, rfl, rfl, ?_⟩⟩
      · rw [← dl_size, dl_ext_end, List.length_drop, dl_size]; omega
      · rw [← dl_size, e]; simp
    · exact ⟨⟨#[]⟩, S, by rw [hSd, hit, if_neg h], hsz, by rw [if_neg h], .inr ⟨h, rfl, rfl⟩⟩
  obtain ⟨sg, T, hT, hTl, hsgd, hcase⟩ := hsg
  have hT1 : 1 ≤ T.size := by rw [← dl_size, hT]; exact hd1
  have Hd := hide hd
  have HT := hide hT
  have Hsg := hide hsgd
  have HB := hide hbW
  clear hSd hit hd hT hsgd hbW hsz hd1 Hf
  have fin : ∀ T2 : ByteArray, (∃ j, dl T2 = List.replicate j 48 ++ d ∧ (j = 0 ∨ T2.size ≤ 5)) → ¬ T2.size < 5 → dl T2 = pad5 d := fun T2 ⟨j, e, hj⟩ hlt => by
    have hl := congrArg List.length e
    rw [dl_size, List.length_append, List.length_replicate] at hl
    have hj5 : j = 5 - d.length := by omega
    rw [e, hj5]
    rfl
  have Hfin := hide fin
  clear fin
  rcases hcase with ⟨hn, rfl, rfl, hS1⟩ | ⟨hn, rfl, rfl⟩
  · have i1 : (1 : Int) ≤ (S.size : Int) := by omega
    go_wp2
    go_quiet (fail)
    go_wp2
    go_loop [3] (fun v3 => ∃ T2 : ByteArray, v3 = .string T2 ∧ T2.size ≤ 21 ∧ 1 ≤ T2.size ∧ Hid (∃ j, dl T2 = List.replicate j 48 ++ d ∧ (j = 0 ∨ T2.size ≤ 5))) (fun v3 => match v3 with | .string s => 5 - s.size | _ => 0)
    case atStart => exact ⟨_, rfl, hTl, hT1, 0, HT.out, .inl rfl⟩
    case round =>
      obtain ⟨T2, rfl, hl21, hl1, hq⟩ := hrel
      by_cases hlt : T2.size < 5
      · have HQ : Hid (∃ j, dl (⟨#[48]⟩ ++ T2) = List.replicate j 48 ++ d ∧ (j = 0 ∨ (⟨#[48]⟩ ++ T2 : ByteArray).size ≤ 5)) := hide (by
          obtain ⟨j, e, _⟩ := hq.out
          refine ⟨j + 1, ?_, .inr ?_⟩
          · rw [dl_app, e]; rfl
          · have hs1 : (⟨#[48]⟩ : ByteArray).size = 1 := rfl
            rw [ByteArray.size_append, hs1]
            omega)
        have i2 : (T2.size : Int) < 5 := by omega
        clear hq
        go_wp2
        go_round
        case rel =>
          have hs1 : (⟨#[48]⟩ : ByteArray).size = 1 := rfl
          exact ⟨_, rfl, by rw [ByteArray.size_append, hs1]; omega, by rw [ByteArray.size_append, hs1]; omega, HQ.out⟩
        case measure =>
          have hs1 : (⟨#[48]⟩ : ByteArray).size = 1 := rfl
          simp only [ByteArray.size_append, hs1]
          omega
      · have hp := Hfin.out T2 hq.out hlt
        have i2 : 5 ≤ (T2.size : Int) := by omega
        have hT5 : 5 ≤ T2.size := by omega
        have i3 : 4 ≤ (T2.size : Int) := by omega
        have Hp := hide hp
        clear hq hp hlt
        go_wp2_with fail
        refine (Tryz.strings_TrimRight_one _ 48 (by decide) _ ?hs).mono ?_
        case hs => rw [ByteArray.size_extract]; omega
        rintro e w' ⟨rfl, rfl⟩
        obtain ⟨R, hR⟩ : ∃ R : ByteArray, (⟨(trimRightB (T2.extract (T2.size - 4) T2.size).data.toList 48).toArray⟩ : ByteArray) = R := ⟨_, rfl⟩
        rw [hR]
        have hRd : dl R = trimRightB ((dl T2).drop (T2.size - 4)) 48 := by
          rw [← hR]
          show trimRightB (dl (T2.extract (T2.size - 4) T2.size)) 48 = _
          rw [dl_ext_end]
        obtain ⟨q, hq⟩ : ∃ q, decide (R.size = 0) = q := ⟨_, rfl⟩
        obtain ⟨he1, he2, he3⟩ := empty_cases R hq
        have hfr : fracT ((dl T2).drop (T2.size - 4)) = if q then [48] else dl R := by
          unfold fracT
          rw [← hRd]
          cases q
          · have h0 : R.size ≠ 0 := of_decide_eq_false hq
            rw [if_neg (fun e => h0 (by rw [← dl_size, e]; rfl))]
            rfl
          · have h0 : R.size = 0 := of_decide_eq_true hq
            rw [if_pos (List.eq_nil_of_length_eq_zero (by rw [dl_size]; exact h0))]
            rfl
        have HF : Hid (decT n = dl ⟨#[45]⟩ ++ ((dl T2).take (T2.size - 4) ++ 46 :: (if q then [48] else dl R))) := hide (by
          unfold decT
          rw [Hd.out, ← Hp.out, dl_size, hfr, ← Hsg.out])
        have hRl : R.size ≤ 21 := by
          obtain ⟨kk, hk⟩ := trimR_parts ((dl T2).drop (T2.size - 4))
          have := congrArg List.length hk
          rw [← hRd, List.length_append, List.length_drop, dl_size, dl_size] at this
          omega
        clear hR hRd hq hfr Hp
        cases q
        · have he := he3 rfl
          clear he2 he3
          go_wp2
          go_ret
          exact ⟨ret_str (by rw [dl_mk, HF.out]; simp [dl]), below_drewN' HB.out _⟩
        · have he := he2 rfl
          clear he2 he3
          go_wp2
          go_ret
          exact ⟨ret_str (by rw [dl_mk, HF.out]; simp [dl]), below_drewN' HB.out _⟩
  · have hn' : 0 ≤ n := by omega
    go_wp2
    go_loop [3] (fun v3 => ∃ T2 : ByteArray, v3 = .string T2 ∧ T2.size ≤ 21 ∧ 1 ≤ T2.size ∧ Hid (∃ j, dl T2 = List.replicate j 48 ++ d ∧ (j = 0 ∨ T2.size ≤ 5))) (fun v3 => match v3 with | .string s => 5 - s.size | _ => 0)
    case atStart => exact ⟨_, rfl, hTl, hT1, 0, HT.out, .inl rfl⟩
    case round =>
      obtain ⟨T2, rfl, hl21, hl1, hq⟩ := hrel
      by_cases hlt : T2.size < 5
      · have HQ : Hid (∃ j, dl (⟨#[48]⟩ ++ T2) = List.replicate j 48 ++ d ∧ (j = 0 ∨ (⟨#[48]⟩ ++ T2 : ByteArray).size ≤ 5)) := hide (by
          obtain ⟨j, e, _⟩ := hq.out
          refine ⟨j + 1, ?_, .inr ?_⟩
          · rw [dl_app, e]; rfl
          · have hs1 : (⟨#[48]⟩ : ByteArray).size = 1 := rfl
            rw [ByteArray.size_append, hs1]
            omega)
        have i2 : (T2.size : Int) < 5 := by omega
        clear hq
        go_wp2
        go_round
        case rel =>
          have hs1 : (⟨#[48]⟩ : ByteArray).size = 1 := rfl
          exact ⟨_, rfl, by rw [ByteArray.size_append, hs1]; omega, by rw [ByteArray.size_append, hs1]; omega, HQ.out⟩
        case measure =>
          have hs1 : (⟨#[48]⟩ : ByteArray).size = 1 := rfl
          simp only [ByteArray.size_append, hs1]
          omega
      · have hp := Hfin.out T2 hq.out hlt
        have i2 : 5 ≤ (T2.size : Int) := by omega
        have hT5 : 5 ≤ T2.size := by omega
        have i3 : 4 ≤ (T2.size : Int) := by omega
        have Hp := hide hp
        clear hq hp hlt
        go_wp2_with fail
        refine (Tryz.strings_TrimRight_one _ 48 (by decide) _ ?hs).mono ?_
        case hs => rw [ByteArray.size_extract]; omega
        rintro e w' ⟨rfl, rfl⟩
        obtain ⟨R, hR⟩ : ∃ R : ByteArray, (⟨(trimRightB (T2.extract (T2.size - 4) T2.size).data.toList 48).toArray⟩ : ByteArray) = R := ⟨_, rfl⟩
        rw [hR]
        have hRd : dl R = trimRightB ((dl T2).drop (T2.size - 4)) 48 := by
          rw [← hR]
          show trimRightB (dl (T2.extract (T2.size - 4) T2.size)) 48 = _
          rw [dl_ext_end]
        obtain ⟨q, hq⟩ : ∃ q, decide (R.size = 0) = q := ⟨_, rfl⟩
        obtain ⟨he1, he2, he3⟩ := empty_cases R hq
        have hfr : fracT ((dl T2).drop (T2.size - 4)) = if q then [48] else dl R := by
          unfold fracT
          rw [← hRd]
          cases q
          · have h0 : R.size ≠ 0 := of_decide_eq_false hq
            rw [if_neg (fun e => h0 (by rw [← dl_size, e]; rfl))]
            rfl
          · have h0 : R.size = 0 := of_decide_eq_true hq
            rw [if_pos (List.eq_nil_of_length_eq_zero (by rw [dl_size]; exact h0))]
            rfl
        have HF : Hid (decT n = dl ⟨#[]⟩ ++ ((dl T2).take (T2.size - 4) ++ 46 :: (if q then [48] else dl R))) := hide (by
          unfold decT
          rw [Hd.out, ← Hp.out, dl_size, hfr, ← Hsg.out])
        have hRl : R.size ≤ 21 := by
          obtain ⟨kk, hk⟩ := trimR_parts ((dl T2).drop (T2.size - 4))
          have := congrArg List.length hk
          rw [← hRd, List.length_append, List.length_drop, dl_size, dl_size] at this
          omega
        clear hR hRd hq hfr Hp
        cases q
        · have he := he3 rfl
          clear he2 he3
          go_wp2
          go_ret
          exact ⟨ret_str (by rw [dl_mk, HF.out]; simp [dl]), HB.out⟩
        · have he := he2 rfl
          clear he2 he3
          go_wp2
          go_ret
          exact ⟨ret_str (by rw [dl_mk, HF.out]; simp [dl]), HB.out⟩
end Go.Proofs.YtkjndabbkfbkaaaGreatDoor
