/- witanlaw06.spell; words joined. -/
import Derived.Test.YtlodonnnbjcejaaGreatDoorLxJ
namespace Go.Proofs.YtlodonnnbjcejaaGreatDoor
open Go Go.RowKit Go.Lib Go.Sort Go.Shelf

theorem join_B (sep : List UInt8) : ∀ xs : List (List UInt8), Lib.join xs sep = joinB sep xs
  | [] => rfl
  | [x] => by simp [Lib.join, joinB]
  | x :: y :: r => by
    have ih := join_B sep (y :: r)
    show _ = x ++ (sep ++ joinB sep (y :: r))
    rw [← ih]
    simp [Lib.join]
theorem joinB_len (sep : List UInt8) (m : Nat) (hs : sep.length ≤ m) : ∀ xs : List (List UInt8), (joinB sep xs).length ≤ (xs.map List.length).sum + m * xs.length
  | [] => by simp [joinB]
  | [x] => by simp [joinB]
  | x :: y :: r => by
    have ih := joinB_len sep m hs (y :: r)
    show (x ++ (sep ++ joinB sep (y :: r))).length ≤ _
    rw [List.length_append, List.length_append]
    simp only [List.map_cons, List.sum_cons, List.length_cons, Nat.mul_add, Nat.mul_one] at ih ⊢
    omega
set_option maxRecDepth 100000 in
set_option maxHeartbeats 2000000 in
theorem spell_any (k : Int) (t : List UInt8) (u1 u2 : Int) (u3 : List UInt8) (ln cl : Int) (w : World) (ht : t.length ≤ 100000) :
    Calls Tryz.prog 16 #[.agg #[.int .u8 k, .string ⟨t.toArray⟩, .int .u8 u1, .int .i64 u2, .string ⟨u3.toArray⟩, .int .i64 ln, .int .i64 cl]] w fun e w' => e = .returned (.string ⟨(spellW ⟨k, t, (u1, u2, u3)⟩).toArray⟩) ∧ Below w.heap.size w w' := by
  obtain ⟨T, hT⟩ : ∃ T : ByteArray, (⟨t.toArray⟩ : ByteArray) = T := ⟨_, rfl⟩
  have hTd : dl T = t := by rw [← hT]
  have hTs : T.size ≤ 100000 := by rw [← dl_size, hTd]; exact ht
  rw [hT]
  have hTn := TokAt.newc w k T u1 u2 ⟨u3.toArray⟩ ln cl
  obtain ⟨W, hW⟩ : ∃ W, w.alloc (.cells #[.int .u8 k, .string T, .int .u8 u1, .int .i64 u2, .string ⟨u3.toArray⟩, .int .i64 ln, .int .i64 cl] 37) = W := ⟨_, rfl⟩
  have hB : Below w.heap.size w W := by rw [← hW]; exact (Below.refl _ w).alloc (Nat.le_refl _) _
  rw [hW] at hTn
  obtain ⟨c0, c1, _, _, _, _, _, _⟩ := hTn
  have HW := hide hW
  have HB := hide hB
  have HTd := hide hTd
  have HTd2 := hide ht
  clear hW hB hTd hT ht
  by_cases h2 : k = 2
  · subst h2
    go_enter Tryz.func16, Tryz.ntmps16
    go_upto_region 1 with fail
    rw [HW.out]
    go_wp2
    go_ret
    exact ⟨ret_str (by rw [dl_app, HTd.out]; rfl), HB.out⟩
  by_cases h3 : k = 3
  · subst h3
    go_enter Tryz.func16, Tryz.ntmps16
    go_upto_region 1 with fail
    rw [HW.out]
    go_wp2
    go_ret
    exact ⟨ret_str (by rw [dl_app, HTd.out]; rfl), HB.out⟩
  by_cases h5 : k = 5
  · subst h5
    go_enter Tryz.func16, Tryz.ntmps16
    go_upto_region 1 with fail
    rw [HW.out]
    go_wp2
    go_ret
    exact ⟨ret_str (by rw [dl_app, dl_app, HTd.out]; rfl), HB.out⟩
  by_cases h6 : k = 6
  · subst h6
    go_enter Tryz.func16, Tryz.ntmps16
    go_upto_region 1 with fail
    rw [HW.out]
    go_wp2
    go_ret
    exact ⟨ret_str (by rw [dl_app, HTd.out]; rfl), HB.out⟩
  · have e2 : (k == 2) = false := beq_eq_false_iff_ne.2 h2
    have e3 : (k == 3) = false := beq_eq_false_iff_ne.2 h3
    have e5 : (k == 5) = false := beq_eq_false_iff_ne.2 h5
    have e6 : (k == 6) = false := beq_eq_false_iff_ne.2 h6
    have hsp : spellW ⟨k, t, (u1, u2, u3)⟩ = t := by
      unfold spellW
      simp only
      rw [if_neg (by omega), if_neg h5, if_neg h6]
    have Hsp := hide hsp
    clear h2 h3 h5 h6 hsp
    go_enter Tryz.func16, Tryz.ntmps16
    go_upto_region 1 with fail
    rw [HW.out]
    go_wp2
    go_ret
    exact ⟨ret_str (by rw [HTd.out, Hsp.out]), HB.out⟩
end Go.Proofs.YtlodonnnbjcejaaGreatDoor
