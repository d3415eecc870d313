/- vtext: text, word, the readers. -/
import Derived.Test.YtkjndabbkfbkaaaGreatDoorVt3
namespace Go.Proofs.YtkjndabbkfbkaaaGreatDoor
open Go Go.RowKit Go.Lib Go.Sort Go.Shelf

theorem innerL_short {l : List UInt8} (h : l.length ≤ 1) : innerL l = [] := by
  match l, h with
  | [], _ => rfl
  | [_], _ => rfl
  | _ :: _ :: _, h => simp at h
theorem byteCells_snoc (l : List UInt8) (c : UInt8) : byteCells l ++ [.int .u8 (c.toNat : Int)] = byteCells (l ++ [c]) := by simp [byteCells]
theorem byteCells_len (l : List UInt8) : (byteCells l).length = l.length := by simp [byteCells]

set_option maxRecDepth 100000 in
set_option maxHeartbeats 1000000 in
theorem vtext_text (s : ByteArray) (w : World) (h1 : 1 ≤ s.size) (hs : s.size ≤ 402) :
    Calls Tryz.prog 150 #[.string s] w fun e w' => e = .returned (.tuple #[.agg #[.int .u8 3, .int .i64 0, .string ⟨(innerL (dl s).tail).toArray⟩], .int .i64 0]) ∧ Below w.heap.size w w' := by
  obtain ⟨W0, hW0⟩ : ∃ W0, w.alloc (.cells #[.int .u8 0, .int .i64 0, .string ⟨#[]⟩] 32) = W0 := ⟨_, rfl⟩
  have hb0 : Below w.heap.size w W0 := by rw [← hW0]; exact (Below.refl w.heap.size w).alloc (Nat.le_refl _) _
  have hbx := (MapKept.heap_alloc w (.cells #[.int .u8 0, .int .i64 0, .string ⟨#[]⟩] 32)).1
  have hz0 : W0.heap.size = w.heap.size + 1 := by rw [← hW0]; simp
  rw [hW0] at hbx
  obtain ⟨W1, hW1⟩ : ∃ W1, W0.alloc (.cells #[.pointer none, .slice none 0 0] 151) = W1 := ⟨_, rfl⟩
  have hb1 : Below (w.heap.size + 1) W0 W1 := by rw [← hW1, ← hz0]; exact (Below.refl W0.heap.size W0).alloc (Nat.le_refl _) _
  have hB := fresh_isBuilder 151 5 W0
  rw [hW1, hz0] at hB
  have hz1 : w.heap.size + 1 < W1.heap.size := by rw [← hW1, World.size_alloc]; omega
  have HW0 := hide hW0
  have HW1 := hide hW1
  have Hz0 := hide hz0
  have HI : Hid (IsBuilder 151 5 (w.heap.size + 1) (w.heap.size + 1) (byteCells []) W1 ∧ Below (w.heap.size + 1) W0 W1) := hide ⟨hB, hb1⟩
  have Hb0 := hide hb0
  have Hbx := hide hbx
  clear hW0 hb0 hbx hz0 hW1 hb1 hB
  go_enter Tryz.func150, Tryz.ntmps150
  go_upto_region 1 with fail
  rw [HW0.out]
  go_upto_region 2 with fail
  rw [HW1.out]
  rw [Hz0.out]
  go_wp2
  go_loopw [5] (fun v5 wr => ∃ (i : Nat) (L : List UInt8), 1 ≤ i ∧ i ≤ s.size ∧ L.length + 1 ≤ i ∧ v5 = .int .i64 i ∧ w.heap.size + 1 < wr.heap.size ∧ Hid (innerL (dl s).tail = L ++ innerL ((dl s).drop i)) ∧ Hid (IsBuilder 151 5 (w.heap.size + 1) (w.heap.size + 1) (byteCells L) wr ∧ Below (w.heap.size + 1) W0 wr)) (fun v5 _ => s.size - (intOf v5).toNat)
  case atStart => exact ⟨1, [], by omega, h1, by simp, rfl, hz1, by rw [List.drop_one]; rfl, HI.out⟩
  case round =>
    clear HI hz1
    obtain ⟨i, L, hi1, his, hLi, rfl, hzr, hin, hq⟩ := hrel
    by_cases hlt : i + 1 < s.size
    · have l1 : i < (dl s).length := by rw [dl_size]; omega
      have l2 : i + 1 < (dl s).length := by rw [dl_size]; exact hlt
      have hdr : (dl s).drop i = s[i] :: s[i + 1] :: (dl s).drop (i + 2) := by
        rw [List.drop_eq_getElem_cons l1, List.drop_eq_getElem_cons l2]
        rfl
      rw [hdr] at hin
      have i1 : (i : Int) < (s.size : Int) - 1 := by omega
      have i2 : (0 : Int) ≤ (i : Int) := by omega
      have i3 : (i : Int) < (s.size : Int) := by omega
      by_cases hc : s[i] = 92
      · have hc2 : ((s[i].toNat : Int) == 92) = true := by rw [hc]; rfl
        have i4 : (i : Int) + 1 < (s.size : Int) := by omega
        have hn : innerL (dl s).tail = (L ++ [s[i + 1]]) ++ innerL ((dl s).drop (i + 2)) := by
          rw [hin.out, innerL, if_pos hc, List.append_assoc]
          rfl
        have Hw := hide (writeByte (w.heap.size + 1) (w.heap.size + 1) (byteCells L) (s[i + 1].toNat : Int) wr hq.out.1 (by rw [byteCells_len]; omega) (by omega))
        have Hq := hide hq.out.2
        have Hn := hide hn
        clear hq hin hdr hc hn
        go_wp2_with fail
        (with_reducible refine Hw.out.mono ?_)
        rintro e V ⟨rfl, hB, hb⟩
        rw [byteCells_snoc] at hB
        have hzV : w.heap.size + 1 < V.heap.size := by have := hb.size; omega
        have HN := hide (And.intro hB (Hq.out.trans hb))
        clear hB hb Hw Hq
        go_wp2
        go_roundw
        case rel => exact ⟨i + 2, L ++ [s[i + 1]], by omega, by omega, by simp; omega, by go_num, hzV, Hn.out, HN.out⟩
        case measure => simp [intOf]; omega
      · have hc2 : ((s[i].toNat : Int) == 92) = false := by
          have : s[i].toNat ≠ 92 := fun e => hc (UInt8.toNat_inj.1 e)
          simp
          omega
        have hn : innerL (dl s).tail = (L ++ [s[i]]) ++ innerL ((dl s).drop (i + 1)) := by
          rw [hin.out, innerL, if_neg hc, List.append_assoc, List.drop_eq_getElem_cons l2]
          rfl
        have Hw := hide (writeByte (w.heap.size + 1) (w.heap.size + 1) (byteCells L) (s[i].toNat : Int) wr hq.out.1 (by rw [byteCells_len]; omega) (by omega))
        have Hq := hide hq.out.2
        have Hn := hide hn
        clear hq hin hdr hc hn
        go_wp2_with fail
        (with_reducible refine Hw.out.mono ?_)
        rintro e V ⟨rfl, hB, hb⟩
        rw [byteCells_snoc] at hB
        have hzV : w.heap.size + 1 < V.heap.size := by have := hb.size; omega
        have HN := hide (And.intro hB (Hq.out.trans hb))
        clear hB hb Hw Hq
        go_wp2
        go_roundw
        case rel => exact ⟨i + 1, L ++ [s[i]], by omega, by omega, by simp; omega, by go_num, hzV, Hn.out, HN.out⟩
        case measure => simp [intOf]; omega
    · have hn : innerL (dl s).tail = L := by rw [hin.out, innerL_short (by rw [List.length_drop, dl_size]; omega), List.append_nil]
      have i1 : ¬ (i : Int) < (s.size : Int) - 1 := by omega
      have i2 : decide ((i : Int) < (s.size : Int) - 1) = false := by simp; omega
      have Hs := hide (Tryz.Builder_String_any (w.heap.size + 1) (w.heap.size + 1) L wr hq.out.1 (by omega))
      have Hq := hide hq.out.2
      have Hn := hide hn
      clear hq hin hn
      go_wp2_with fail
      (with_reducible refine Hs.out.mono ?_)
      rintro e V ⟨rfl, hb⟩
      have hbx := ((Hq.out.trans hb).block w.heap.size (by omega)).trans Hbx.out
      have a0 : V.cell? ⟨w.heap.size, 0, none⟩ = some (.int .u8 0) := by simp [World.cell?, hbx]
      have a1 : V.cell? ⟨w.heap.size, 1, none⟩ = some (.int .i64 0) := by simp [World.cell?, hbx]
      have a2 : V.cell? ⟨w.heap.size, 2, none⟩ = some (.string ⟨#[]⟩) := by simp [World.cell?, hbx]
      have f0 : ∀ i, V.frozen? ⟨w.heap.size, i, none⟩ = false := fun i => by simp [World.frozen?, hbx]
      have HB : Hid (Below w.heap.size w V) := hide (Hb0.out.trans ((Hq.out.trans hb).mono (by omega)))
      clear hbx hb Hs Hq
      go_wp2
      refine bodyPost_ret (v := .tuple #[.agg #[.int .u8 3, .int .i64 0, .string ⟨L.toArray⟩], .int .i64 0]) (by simp [results, Tryz.results150, go_sem, *]) rfl ?_
      rw [Hn.out]
      exact ⟨rfl, ((HB.out.setCell (by simp) _).setCell (by simp) _).setCell (by simp) _⟩
end Go.Proofs.YtkjndabbkfbkaaaGreatDoor
