/- The walk of witanlaw29's held. -/
import Derived.Test.YtmcajoccfbebiaaTrHeld
namespace Go.Proofs.Ytmcajoccfbebiaa
open Go Go.RowKit Go.MapKept Go.Sort

set_option maxRecDepth 100000 in
set_option maxHeartbeats 4000000 in
theorem held29_any (vl : Value) (l : List OpD) (w : World) (hl : OpsD w vl l) (hn20 : ∀ d ∈ l, d.j.n ≤ 20) (hl200 : l.length ≤ 200) :
    Calls Try.prog 34 #[vl] w fun e w' => ∃ b m M, e = .returned (.pointer (some ⟨b, 0, none⟩)) ∧ Bk w' b m M l.length ∧ Says M l ∧ Below w.heap.size w w' ∧ w.heap.size ≤ b ∧ w.heap.size ≤ m := by
  obtain ⟨la, lc, rfl⟩ := hl.form
  have Hl := hide hl
  have Hn20 := hide hn20
  have Hnew := hide (new_any w)
  clear hl hn20
  go_enter Try.func34, Try.ntmps34
  go_wp2_with fail
  (with_reducible refine Hnew.out.mono ?_)
  rintro e wn ⟨b, m, rfl, hB, hbn, hbb, hmm0⟩
  have HBn := hide (show Bk wn b m [] 0 from ⟨hB, by simp, fun id => by simp [getD, getS]⟩)
  have Hbn := hide hbn
  clear hB hbn Hnew
  go_wp2_with fail
  go_loopw [9] (fun vi wr => ∃ k : Nat, k ≤ l.length ∧ vi = .int .i64 k ∧ Hid ((∃ M, Bk wr b m M k ∧ Says M (l.take k)) ∧ Below w.heap.size w wr)) (fun vi _ => l.length - (intOf vi).toNat)
  case atStart => exact ⟨0, Nat.zero_le _, rfl, ⟨[], HBn.out, Says.nil⟩, Hbn.out⟩
  case round =>
    obtain ⟨k, hk, rfl, hq⟩ := hrel
    by_cases hlk : k < l.length
    · obtain ⟨⟨M, hM, hS⟩, hbw⟩ := hq.out
      obtain ⟨ob, off, cap, e, hat⟩ := (Hl.out.below hbw).at hlk
      injection e with e1 e2 e3
      subst e1 e3
      clear e2
      have hn := Hn20.out _ (List.getElem_mem hlk)
      have htk : l.take (k + 1) = l.take k ++ [l[k]] := List.take_succ_eq_append_getElem hlk
      obtain ⟨D, hD⟩ : ∃ D, l[k] = D := ⟨_, rfl⟩
      rw [hD] at hat hn htk
      obtain ⟨kd, id, ⟨jr, ja, jn, jc, jt⟩⟩ := D
      obtain ⟨c0, c1, c2, c3, hjo, hwf⟩ := hat
      simp only at c0 c1 c2 c3 hjo hwf hn
      obtain ⟨WO, hWO⟩ : ∃ WO, wr.alloc (Obj.cells #[.int .i64 kd, .int .i64 id, .int .i64 jr, .slice ja jn jc] 55) = WO := ⟨_, rfl⟩
      have hbO : Below wr.heap.size wr WO := by rw [← hWO]; exact ((Only.refl [] wr).alloc _).below
      have hbx := heap_alloc0 wr (Obj.cells #[.int .i64 kd, .int .i64 id, .int .i64 jr, .slice ja jn jc] 55)
      rw [hWO] at hbx
      have o0 : WO.cell? ⟨wr.heap.size, 0, none⟩ = some (.int .i64 kd) := cellAt (i := 0) hbx rfl
      have o1 : WO.cell? ⟨wr.heap.size, 1, none⟩ = some (.int .i64 id) := cellAt (i := 1) hbx rfl
      have o2 : WO.cell? ⟨wr.heap.size, 2, none⟩ = some (.int .i64 jr) := cellAt (i := 2) hbx rfl
      have o3 : WO.cell? ⟨wr.heap.size, 3, none⟩ = some (.slice ja jn jc) := cellAt (i := 3) hbx rfl
      have HbO := hide (hbw.trans (hbO.mono hbw.size))
      have HMO := hide (hM.below hbO)
      have HP := hide fun (h : kd = 1) => plain_sb ⟨kd, id, ⟨jr, ja, jn, jc, jt⟩⟩ (hM.below hbO) hS h (by omega) hwf
      have HJ := hide fun (h : kd = 2) => justify_sb ⟨kd, id, ⟨jr, ja, jn, jc, jt⟩⟩ (hM.below hbO) hS h (by omega) hwf (hjo.below hbO) hn
      have HS := hide hS
      unfold JD.val at HJ
      simp only at HJ HP
      rw [← htk] at HJ HP
      have Htk := hide htk
      have HWO := hide hWO
      have i1 : (k : Int) < (l.length : Int) := by omega
      have i2 : (0 : Int) ≤ (k : Int) := by omega
      have Hfin : Hid (∀ V2, (∃ M', Bk V2 b m M' (k + 1) ∧ Says M' (l.take (k + 1))) → Only [m] WO V2 → (∃ M', Bk V2 b m M' (k + 1) ∧ Says M' (l.take (k + 1))) ∧ Below w.heap.size w V2) := hide fun V2 h1 h2 => ⟨h1, below_only HbO.out h2 (fun i hi => by simp only [List.mem_singleton] at hi; omega) HbO.out.size⟩
      clear hq hM hbw hD hjo hwf hn hWO hbO hbx hS htk
      go_upto_region 5 with fail
      rw [HWO.out]
      by_cases h1 : kd = 1
      · subst h1
        go_wp2_with fail
        (with_reducible refine (HP.out trivial).mono ?_)
        rintro e V2 ⟨rfl, hM2, ho2⟩
        have HF := Hfin.out V2 hM2 ho2
        have HF := hide HF
        clear hM2 ho2 o0 o1 o2 o3 HP HJ
        go_wp2
        go_roundw
        case rel => exact ⟨k + 1, by omega, by go_num, HF.out⟩
        case measure => simp [intOf]; omega
      · have e1 : (kd == 1) = false := by simpa using h1
        by_cases h2 : kd = 2
        · subst h2
          go_wp2_with fail
          (with_reducible refine (HJ.out trivial).mono ?_)
          rintro e V2 ⟨⟨p, rfl⟩, hM2, ho2⟩
          have HF := Hfin.out V2 hM2 ho2
          have HF := hide HF
          clear hM2 ho2 o0 o1 o2 o3 HP HJ
          go_wp2
          go_roundw
          case rel => exact ⟨k + 1, by omega, by go_num, HF.out⟩
          case measure => simp [intOf]; omega
        · have e2 : (kd == 2) = false := by simpa using h2
          have HF := hide (Hfin.out WO ⟨M, HMO.out.next, by rw [Htk.out]; exact HS.out.skip h1 h2⟩ (Only.refl _ _))
          clear HP HJ
          go_wp2
          go_roundw
          case rel => exact ⟨k + 1, by omega, by go_num, HF.out⟩
          case measure => simp [intOf]; omega
    · obtain rfl : k = l.length := by omega
      obtain ⟨⟨M, hM, hS⟩, hbw⟩ := hq.out
      rw [List.take_length] at hS
      go_wp2
      go_ret
      exact ⟨b, m, M, rfl, hM, hS, hbw, hbb, hmm0⟩
end Go.Proofs.Ytmcajoccfbebiaa
