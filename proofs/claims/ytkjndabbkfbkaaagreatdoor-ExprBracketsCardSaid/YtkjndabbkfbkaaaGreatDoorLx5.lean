/- lexer: sign. -/
import Derived.Test.YtkjndabbkfbkaaaGreatDoorLx4
namespace Go.Proofs.YtkjndabbkfbkaaaGreatDoor
open Go Go.RowKit Go.Lib Go.Sort Go.Shelf

def tw (i : Nat) : ByteArray := match i with
  | 0 => ⟨#[60, 61]⟩ | 1 => ⟨#[62, 61]⟩ | 2 => ⟨#[60, 62]⟩ | _ => ⟨#[46, 46]⟩
theorem tw_mem (i : Nat) : dl (tw i) ∈ twos := by
  match i with
  | 0 => exact .head _
  | 1 => exact .tail _ (.head _)
  | 2 => exact .tail _ (.tail _ (.head _))
  | n + 3 => exact .tail _ (.tail _ (.tail _ (.head _)))
theorem tw_len (i : Nat) : (dl (tw i)).length = 2 := (show ∀ x ∈ twos, x.length = 2 by decide) _ (tw_mem i)
theorem pre_take {l p : List UInt8} (hp : p.length = 2) : hasPrefix l p = decide (l.take 2 = p) := by
  unfold hasPrefix
  rw [Bool.eq_iff_iff, List.isPrefixOf_iff_prefix, List.prefix_iff_eq_take, hp, decide_eq_true_iff]
  exact eq_comm
theorem twos_none {l : List UInt8} (h : ∀ j, j < 4 → hasPrefix l (dl (tw j)) = false) : ¬ l.take 2 ∈ twos := by
  have hq : ∀ j, j < 4 → l.take 2 ≠ dl (tw j) := fun j hj => by
    have := h j hj
    rw [pre_take (tw_len j)] at this
    exact of_decide_eq_false this
  intro hm
  simp only [twos, List.mem_cons, List.not_mem_nil, or_false] at hm
  rcases hm with e | e | e | e
  · exact hq 0 (by decide) e
  · exact hq 1 (by decide) e
  · exact hq 2 (by decide) e
  · exact hq 3 (by decide) e
theorem idx_neg : ∀ (l : List UInt8) (c : UInt8), indexByte l c < 0 ↔ c ∉ l
  | [], c => by simp [indexByte]
  | b :: l, c => by
    have ih := idx_neg l c
    have hge := indexByte_ge l c
    unfold indexByte
    by_cases h : b = c
    · subst h
      simp
    · have h1 : (b == c) = false := by simpa using h
      rw [h1]
      simp only [Bool.false_eq_true, if_false, List.mem_cons, not_or]
      by_cases h2 : indexByte l c = -1
      · rw [h2] at ih ⊢
        simp only [beq_self_eq_true, if_true]
        constructor
        · intro _
          exact ⟨fun e => h e.symm, ih.1 (by decide)⟩
        · intro _; decide
      · have h3 : (indexByte l c == -1) = false := by simpa using h2
        rw [h3]
        simp only [Bool.false_eq_true, if_false]
        constructor
        · intro h4; omega
        · intro h4
          have := ih.2 h4.2
          omega
theorem tx0 (w : World) : (Instr.index 123 (.agg #[.string ⟨#[60, 61]⟩, .string ⟨#[62, 61]⟩, .string ⟨#[60, 62]⟩, .string ⟨#[46, 46]⟩]) (.int .i64 0)).run Tryz.prog w = .ok (.string ⟨#[60, 61]⟩) w := by kernel_rfl
theorem tx1 (w : World) : (Instr.index 123 (.agg #[.string ⟨#[60, 61]⟩, .string ⟨#[62, 61]⟩, .string ⟨#[60, 62]⟩, .string ⟨#[46, 46]⟩]) (.int .i64 1)).run Tryz.prog w = .ok (.string ⟨#[62, 61]⟩) w := by kernel_rfl
theorem tx2 (w : World) : (Instr.index 123 (.agg #[.string ⟨#[60, 61]⟩, .string ⟨#[62, 61]⟩, .string ⟨#[60, 62]⟩, .string ⟨#[46, 46]⟩]) (.int .i64 2)).run Tryz.prog w = .ok (.string ⟨#[60, 62]⟩) w := by kernel_rfl
theorem tx3 (w : World) : (Instr.index 123 (.agg #[.string ⟨#[60, 61]⟩, .string ⟨#[62, 61]⟩, .string ⟨#[60, 62]⟩, .string ⟨#[46, 46]⟩]) (.int .i64 3)).run Tryz.prog w = .ok (.string ⟨#[46, 46]⟩) w := by kernel_rfl
set_option maxRecDepth 100000 in
set_option maxHeartbeats 4000000 in
theorem lsign_any (s : ByteArray) (w : World) (h0 : 0 < s.size) (hs : s.size ≤ 65536) :
    Calls Tryz.prog 68 #[.string s] w (WPost w (signW (dl s))) := by
  obtain ⟨W0, hW0⟩ : ∃ W0, w.alloc (.cells tok0 62) = W0 := ⟨_, rfl⟩
  have hb0 : Below w.heap.size w W0 := by rw [← hW0]; exact (Below.refl w.heap.size w).alloc (Nat.le_refl _) _
  have ht0 := TokAt.new w
  rw [hW0] at ht0
  unfold tok0 at hW0
  have ix : ∀ (i : Nat) (w : World), i < 4 → (Instr.index 123 (.agg #[.string ⟨#[60, 61]⟩, .string ⟨#[62, 61]⟩, .string ⟨#[60, 62]⟩, .string ⟨#[46, 46]⟩]) (.int .i64 (i : Nat))).run Tryz.prog w = .ok (.string (tw i)) w := fun i w hi => by
    match i, hi with
    | 0, _ => exact tx0 w
    | 1, _ => exact tx1 w
    | 2, _ => exact tx2 w
    | 3, _ => exact tx3 w
  have hdc : dl s = s[0] :: (dl s).drop 1 := by
    have l1 : 0 < (dl s).length := by rw [dl_size]; exact h0
    have := List.drop_eq_getElem_cons l1
    rw [List.drop_zero] at this
    exact this
  have hib := Tryz.strings_IndexByte ⟨#[40, 41, 91, 93, 44, 58, 61, 60, 62, 43, 45, 42, 47]⟩ (s[0].toNat : Int) W0
  have hu : ((s[0].toNat : Int).toNat.toUInt8) = s[0] := by
    rw [Int.toNat_natCast]
    exact UInt8.ofNat_toNat
  rw [hu] at hib
  have hneg := idx_neg ones s[0]
  have hone : ∀ b : Bool, decide (s[0] ∉ ones) = b → ((dl s).take 1 ∈ (ones.map fun c => [c]) ↔ b = false) := fun b hb => by
    rw [hdc, List.take_succ_cons, List.take_zero, List.mem_map]
    cases b with
    | true =>
      have := of_decide_eq_true hb
      simp only [List.cons.injEq, and_true, exists_eq_right, Bool.true_eq_false, iff_false]
      exact this
    | false =>
      have := of_decide_eq_false hb
      simp only [List.cons.injEq, and_true, exists_eq_right, iff_true]
      simpa using this
  obtain ⟨x, hx⟩ : ∃ x, indexByte ones s[0] = x := ⟨_, rfl⟩
  have hib2 : Calls Tryz.prog 101 #[.string ⟨#[40, 41, 91, 93, 44, 58, 61, 60, 62, 43, 45, 42, 47]⟩, .int .u8 (s[0].toNat : Int)] W0 fun e w' => e = .returned (.int .i64 x) ∧ w' = W0 := by rw [← hx]; exact hib
  rw [hx] at hneg
  have he1 : (⟨((dl s).take 1).toArray⟩ : ByteArray) = s.extract 0 1 := dl_inj (by rw [dl_mk, dl_ext, List.drop_zero])
  have HW0 := hide hW0
  have Hb0 := hide hb0
  have Ht0 := hide ht0
  have Hix := hide ix
  have Hib := hide hib2
  have Hone := hide hone
  have Hneg := hide hneg
  have He1 := hide he1
  have i0 : (0 : Int) < (s.size : Int) := by omega
  have i1 : (1 : Int) ≤ (s.size : Int) := by omega
  clear hW0 hb0 ht0 ix hib hib2 hone hneg hx hdc he1 hu
  go_enter Tryz.func68, Tryz.ntmps68
  go_upto_region 1 with fail
  rw [HW0.out]
  clear HW0
  go_wp2
  go_loopw [8] (fun v8 wr => ∃ i : Nat, i ≤ 4 ∧ v8 = .int .i64 i ∧ Hid ((∀ j, j < i → hasPrefix (dl s) (dl (tw j)) = false) ∧ W0 = wr)) (fun v8 _ => 4 - (intOf v8).toNat)
  case atStart => exact ⟨0, by omega, rfl, fun j h => by omega, rfl⟩
  case round =>
    obtain ⟨i, hi, rfl, hq⟩ := hrel
    obtain ⟨hno, rfl⟩ := hq.out
    by_cases hlt : i < 4
    · have i2 : (i : Int) < 4 := by omega
      have hix := Hix.out i W0 hlt
      have hpc := Tryz.strings_HasPrefix s (tw i) W0
      have htk := pre_take (l := dl s) (tw_len i)
      obtain ⟨b, hb⟩ : ∃ b, hasPrefix (dl s) (dl (tw i)) = b := ⟨_, rfl⟩
      have hb' : hasPrefix s.data.toList (tw i).data.toList = b := hb
      rw [hb'] at hpc
      rw [hb] at htk
      have hmem := tw_mem i
      cases b with
      | true =>
        have hsig : signW (dl s) = .ok (⟨7, dl (tw i), v0⟩, 2) := by
          have e : (dl s).take 2 = dl (tw i) := of_decide_eq_true htk.symm
          unfold signW
          rw [e, if_pos hmem]
        obtain ⟨z, hz⟩ : ∃ z, tw i = z := ⟨_, rfl⟩
        rw [hz] at hix hpc hsig
        have Hpc := hide hpc
        have Hsig := hide hsig
        clear hpc hsig hb hb' htk hmem hno hq hz Hib Hone Hneg He1
        go_wp2_with fail
        (with_reducible refine Hpc.out.mono ?_)
        rintro e V ⟨rfl, rfl⟩
        obtain ⟨c0, c1, c2, c3, c4, c5, c6, fz⟩ := Ht0.out
        have hT := TokAt.set7 (w := V) (b := w.heap.size) ⟨c0, c1, c2, c3, c4, c5, c6, fz⟩ 7 z 0 0 ⟨#[]⟩ 0 0
        have hB2 := below_set7 Hb0.out (Nat.le_refl _) 7 z 0 0 ⟨#[]⟩ 0 0
        obtain ⟨Z, hZ⟩ : ∃ Z, set7 V w.heap.size 7 z 0 0 ⟨#[]⟩ 0 0 = Z := ⟨_, rfl⟩
        rw [hZ] at hT hB2
        unfold set7 at hZ
        have HT := hide hT
        have HB3 := hide hB2
        have HZ := hide hZ
        clear hT hB2 hZ
        go_wp2_with fail
        rw [HZ.out]
        obtain ⟨d0, d1, d2, d3, d4, d5, d6, _⟩ := HT.out
        clear c0 c1 c2 c3 c4 c5 c6 fz
        refine bodyPost_ret (v := .tuple #[.agg #[.int .u8 7, .string z, .int .u8 0, .int .i64 0, .string ⟨#[]⟩, .int .i64 0, .int .i64 0], .int .i64 2, .int .i64 0]) (by simp [results, Tryz.results68, go_sem, *]) rfl ?_
        rw [Hsig.out]
        exact ⟨HB3.out, by rw [← mk_dl z]; rfl⟩
      | false =>
        have hno2 : ∀ j, j < i + 1 → hasPrefix (dl s) (dl (tw j)) = false := fun j hj => by
          rcases Nat.lt_or_ge j i with q | q
          · exact hno j q
          · obtain rfl : j = i := by omega
            exact hb
        obtain ⟨z, hz⟩ : ∃ z, tw i = z := ⟨_, rfl⟩
        rw [hz] at hix hpc
        have Hpc := hide hpc
        have Hno := hide hno2
        clear hpc hb hb' htk hmem hno hq hz hno2 Hib Hone Hneg He1
        go_wp2_with fail
        (with_reducible refine Hpc.out.mono ?_)
        rintro e V ⟨rfl, rfl⟩
        go_wp2
        go_roundw
        case rel => exact ⟨i + 1, by omega, by go_num, Hno.out, by trivial⟩
        case measure => simp [intOf]; omega
    · obtain rfl : i = 4 := by omega
      have hnt := twos_none hno
      obtain ⟨b, hb⟩ : ∃ b, decide (s[0] ∉ ones) = b := ⟨_, rfl⟩
      have hon := Hone.out b hb
      cases b with
      | true =>
        have hx0 : x < 0 := Hneg.out.2 (of_decide_eq_true hb)
        have hsig : signW (dl s) = .error 4 := by
          unfold signW
          rw [if_neg hnt, if_neg (fun h => absurd (hon.1 h) (by simp))]
        have i3 : decide (x < 0) = true := by simpa using hx0
        have Hsig := hide hsig
        clear hsig hx0 hb hon hnt hno hq Hix Hone Hneg He1
        go_wp2_with fail
        (with_reducible refine Hib.out.mono ?_)
        rintro e V ⟨rfl, rfl⟩
        clear Hib
        obtain ⟨c0, c1, c2, c3, c4, c5, c6, fz⟩ := Ht0.out
        have hT := TokAt.set7 (w := V) (b := w.heap.size) ⟨c0, c1, c2, c3, c4, c5, c6, fz⟩ 0 ⟨#[]⟩ 0 0 ⟨#[]⟩ 0 0
        have hB2 := below_set7 Hb0.out (Nat.le_refl _) 0 ⟨#[]⟩ 0 0 ⟨#[]⟩ 0 0
        obtain ⟨Z, hZ⟩ : ∃ Z, set7 V w.heap.size 0 ⟨#[]⟩ 0 0 ⟨#[]⟩ 0 0 = Z := ⟨_, rfl⟩
        rw [hZ] at hT hB2
        unfold set7 at hZ
        have HT := hide hT
        have HB3 := hide hB2
        have HZ := hide hZ
        clear hT hB2 hZ
        go_wp2_with fail
        rw [HZ.out]
        obtain ⟨d0, d1, d2, d3, d4, d5, d6, _⟩ := HT.out
        clear c0 c1 c2 c3 c4 c5 c6 fz
        refine bodyPost_ret (v := .tuple #[.agg #[.int .u8 0, .string ⟨#[]⟩, .int .u8 0, .int .i64 0, .string ⟨#[]⟩, .int .i64 0, .int .i64 0], .int .i64 0, .int .i64 4]) (by simp [results, Tryz.results68, go_sem, *]) rfl ?_
        rw [Hsig.out]
        exact ⟨HB3.out, ⟨0, [], (0, 0, [])⟩, 0, rfl⟩
      | false =>
        have hx0 : ¬ x < 0 := fun h => absurd (Hneg.out.1 h) (of_decide_eq_false hb)
        have hsig : signW (dl s) = .ok (⟨7, (dl s).take 1, v0⟩, 1) := by
          unfold signW
          rw [if_neg hnt, if_pos (hon.2 rfl)]
        have i3 : decide (x < 0) = false := by simpa using hx0
        have Hsig := hide hsig
        clear hsig hx0 hb hon hnt hno hq Hix Hone Hneg
        go_wp2_with fail
        (with_reducible refine Hib.out.mono ?_)
        rintro e V ⟨rfl, rfl⟩
        clear Hib
        obtain ⟨c0, c1, c2, c3, c4, c5, c6, fz⟩ := Ht0.out
        have hT := TokAt.set7 (w := V) (b := w.heap.size) ⟨c0, c1, c2, c3, c4, c5, c6, fz⟩ 7 (s.extract 0 1) 0 0 ⟨#[]⟩ 0 0
        have hB2 := below_set7 Hb0.out (Nat.le_refl _) 7 (s.extract 0 1) 0 0 ⟨#[]⟩ 0 0
        obtain ⟨Z, hZ⟩ : ∃ Z, set7 V w.heap.size 7 (s.extract 0 1) 0 0 ⟨#[]⟩ 0 0 = Z := ⟨_, rfl⟩
        rw [hZ] at hT hB2
        unfold set7 at hZ
        have HT := hide hT
        have HB3 := hide hB2
        have HZ := hide hZ
        clear hT hB2 hZ
        go_wp2_with fail
        rw [HZ.out]
        obtain ⟨d0, d1, d2, d3, d4, d5, d6, _⟩ := HT.out
        clear c0 c1 c2 c3 c4 c5 c6 fz
        refine bodyPost_ret (v := .tuple #[.agg #[.int .u8 7, .string (s.extract 0 1), .int .u8 0, .int .i64 0, .string ⟨#[]⟩, .int .i64 0, .int .i64 0], .int .i64 1, .int .i64 0]) (by simp [results, Tryz.results68, go_sem, *]) rfl ?_
        rw [Hsig.out]
        exact ⟨HB3.out, by rw [← He1.out]; rfl⟩
end Go.Proofs.YtkjndabbkfbkaaaGreatDoor
