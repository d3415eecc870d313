/- The walk of witanlaw03.VtextOnly. -/
import Derived.Test.YthkjhegahgpfhaaDoorVt7
namespace Go.Proofs.YthkjhegahgpfhaaDoor
open Go Go.RowKit Go.Lib Go.Sort Go.Shelf

theorem prsL_fit {l : List UInt8} {k n : Int} {z : List UInt8} (h : prsL l = .ok (k, n, z)) : -9223372036854775808 ≤ n ∧ n ≤ 9223372036854775807 ∧ z.length ≤ l.length := by
  have hf := readP_fit l
  unfold prsL at h
  by_cases h4 : 402 < l.length
  · rw [if_pos h4] at h; cases h
  rw [if_neg h4] at h
  by_cases hl : l = []
  · rw [if_pos hl] at h; cases h
  rw [if_neg hl] at h
  cases hr : readP l with
  | error e => rw [hr] at h; cases h
  | ok v =>
    rw [hr] at h hf
    simp only at h
    by_cases ht : txtM v.1 v.2.1 v.2.2 = l
    · rw [if_pos ht] at h
      injection h with h
      subst h
      exact hf
    · rw [if_neg ht] at h; cases h
theorem txtB_ok {s : ByteArray} {k n : Int} {z : List UInt8} (h : prsL (dl s) = .ok (k, n, z)) : txtB ⟨k, n, ⟨z.toArray⟩⟩ = s := by
  obtain ⟨h1, h2, _, _⟩ := prsL_ok h
  refine dl_inj ?_
  show txtM k n z = dl s
  unfold txtM
  rw [if_pos h1, h2]

set_option maxRecDepth 100000 in
set_option maxHeartbeats 2000000 in
theorem only_walk (s : ByteArray) (w : World) (hs : s.size ≤ 9223372036854775807) (hR : Rd w) :
    Calls Tryd.prog 3 #[.string s] w fun e w' => e = .returned (.bool true) ∧ Below w.heap.size w w' := by
  by_cases h500 : 500 < s.size
  · have i1 : (500 : Int) < (s.size : Int) := by omega
    have Hk := hide (known03 w hR)
    clear h500 hR
    go_enter Tryd.func3, Tryd.ntmps3
    go_wp2_with fail
    (with_reducible refine Hk.out.mono ?_)
    rintro e V ⟨rfl, hb⟩
    go_wp2
    go_ret
    exact ⟨rfl, hb⟩
  have i1 : (s.size : Int) ≤ 500 := by omega
  have HR := hide hR
  cases hp : prsL (dl s) with
  | error q =>
    have Hp := hide (parse_err s w hs hR hp)
    have hq : (q == 0) = false := by
      have := prsL_err hp
      simp
      omega
    clear hp hR h500
    go_enter Tryd.func3, Tryd.ntmps3
    go_wp2_with fail
    (with_reducible refine Hp.out.mono ?_)
    rintro e V ⟨rfl, hb⟩
    have HB : Hid (Below w.heap.size w (V.alloc (.cells #[.int .u8 0, .int .i64 0, .string ⟨#[]⟩] 24))) := hide (hb.alloc hb.size _)
    have Hk := hide (known03 _ (HR.out.below HB.out))
    clear hb Hp
    go_wp2_with fail
    (with_reducible refine Hk.out.mono ?_)
    rintro e V2 ⟨rfl, hb⟩
    have HB2 := hide (HB.out.trans (hb.mono HB.out.size))
    clear hb Hk
    go_wp2
    go_ret
    exact ⟨rfl, HB2.out⟩
  | ok v =>
    obtain ⟨k, n, z⟩ := v
    have Hp := hide (parse_ok s w hs hR hp)
    obtain ⟨f1, f2, f3⟩ := prsL_fit hp
    have htx := txtB_ok hp
    obtain ⟨e1, hb1, hb2⟩ := prsL_blank (dl s)
    obtain ⟨e2, hc1, hc2⟩ := prsL_nought hp
    have hz32 : dl (⟨#[32]⟩ ++ s) = 32 :: dl s := by rw [dl_app]; rfl
    have hz48 : dl (⟨#[48]⟩ ++ s) = 48 :: dl s := by rw [dl_app]; rfl
    have s32 : (⟨#[32]⟩ ++ s : ByteArray).size ≤ 9223372036854775807 := by
      have e : (⟨#[32]⟩ : ByteArray).size = 1 := rfl
      rw [ByteArray.size_append, e]; omega
    have s48 : (⟨#[48]⟩ ++ s : ByteArray).size ≤ 9223372036854775807 := by
      have e : (⟨#[48]⟩ : ByteArray).size = 1 := rfl
      rw [ByteArray.size_append, e]; omega
    have q1 : (e1 == 0) = false := by simp; omega
    have q2 : (e2 == 0) = false := by simp; omega
    have q3 : (e1 != 0) = true := by simp; omega
    have q4 : (e2 != 0) = true := by simp; omega
    have Hq1 := hide fun V (hV : Below w.heap.size w V) => parse_err (⟨#[32]⟩ ++ s) V s32 (hR.below hV) (by rw [hz32]; exact hb1)
    have Hq2 := hide fun V (hV : Below w.heap.size w V) => parse_err (⟨#[48]⟩ ++ s) V s48 (hR.below hV) (by rw [hz48]; exact hc1)
    have hfit : (⟨k, n, ⟨z.toArray⟩⟩ : Vl).fit := by
      refine ⟨?_, f1, f2⟩
      rw [← dl_size, dl_mk]
      rw [dl_size] at f3
      exact Nat.le_trans f3 hs
    have Ht := hide fun V (hV : Below w.heap.size w V) => htx ▸ text_any ⟨k, n, ⟨z.toArray⟩⟩ V hfit (hR.below hV)
    clear hp hR htx hb1 hb2 hc1 hc2 hz32 hz48 s32 s48 f1 f2 f3 hfit h500
    go_enter Tryd.func3, Tryd.ntmps3
    go_wp2_with fail
    (with_reducible refine Hp.out.mono ?_)
    rintro e V ⟨rfl, hb⟩
    obtain ⟨V1, hV1⟩ : ∃ V1, V.alloc (.cells #[.int .u8 k, .int .i64 n, .string ⟨z.toArray⟩] 24) = V1 := ⟨_, rfl⟩
    have hx := (MapKept.heap_alloc V (.cells #[.int .u8 k, .int .i64 n, .string ⟨z.toArray⟩] 24)).1
    rw [hV1] at hx
    have HB1 : Hid (Below w.heap.size w V1) := hide (by rw [← hV1]; exact hb.alloc hb.size _)
    have HV1 := hide hV1
    have Hx := hide hx
    clear hb Hp hV1 hx
    go_upto_region 4 with fail
    rw [HV1.out]
    go_wp2_with fail
    (with_reducible refine (Hq1.out V1 HB1.out).mono ?_)
    rintro e W ⟨rfl, hb⟩
    obtain ⟨W1, hW1⟩ : ∃ W1, W.alloc (.cells #[.int .u8 0, .int .i64 0, .string ⟨#[]⟩] 24) = W1 := ⟨_, rfl⟩
    have hbW : Below V1.heap.size V1 W1 := by rw [← hW1]; exact hb.alloc hb.size _
    have HB2 : Hid (Below w.heap.size w W1) := hide (HB1.out.trans (hbW.mono HB1.out.size))
    have Hx2 := hide ((hbW.block _ (lt_of_block Hx.out)).trans Hx.out)
    have HW1 := hide hW1
    clear hb hW1 hbW Hx HB1 Hq1 HV1
    go_upto_region 7 with fail
    rw [HW1.out]
    go_wp2_with fail
    (with_reducible refine (Hq2.out W1 HB2.out).mono ?_)
    rintro e X ⟨rfl, hb⟩
    obtain ⟨X1, hX1⟩ : ∃ X1, X.alloc (.cells #[.int .u8 0, .int .i64 0, .string ⟨#[]⟩] 24) = X1 := ⟨_, rfl⟩
    have hbX : Below W1.heap.size W1 X1 := by rw [← hX1]; exact hb.alloc hb.size _
    have HB3 : Hid (Below w.heap.size w X1) := hide (HB2.out.trans (hbX.mono HB2.out.size))
    have hx3 := (hbX.block _ (lt_of_block Hx2.out)).trans Hx2.out
    have HX1 := hide hX1
    have c0 : X1.cell? ⟨V.heap.size, 0, none⟩ = some (.int .u8 k) := by simp [World.cell?, hx3]
    have c1 : X1.cell? ⟨V.heap.size, 1, none⟩ = some (.int .i64 n) := by simp [World.cell?, hx3]
    have c2 : X1.cell? ⟨V.heap.size, 2, none⟩ = some (.string ⟨z.toArray⟩) := by simp [World.cell?, hx3]
    clear hb hX1 hbX Hx2 HB2 Hq2 HW1 hx3
    go_upto_region 8 with fail
    rw [HX1.out]
    go_wp2_with fail
    (with_reducible refine (Ht.out X1 HB3.out).mono ?_)
    rintro e Y ⟨rfl, hb⟩
    have HB4 : Hid (Below w.heap.size w Y) := hide (HB3.out.trans (hb.mono HB3.out.size))
    have Hk := hide (known03 Y (HR.out.below HB4.out))
    clear hb HB3 Ht c0 c1 c2 HX1
    go_wp2_with fail
    (with_reducible refine Hk.out.mono ?_)
    rintro e Y2 ⟨rfl, hb⟩
    have HB5 := hide (HB4.out.trans (hb.mono HB4.out.size))
    clear hb Hk HB4
    go_wp2
    go_ret
    exact ⟨rfl, HB5.out⟩
end Go.Proofs.YthkjhegahgpfhaaDoor
