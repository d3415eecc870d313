/- witanlaw03.known. -/
import Derived.Test.YtgfakdobajgnfaaGreatDoorVt1
namespace Go.Proofs.YtgfakdobajgnfaaGreatDoor
open Go Go.RowKit Go.Lib Go.Sort Go.Shelf

def isErr (r : Except Int (Int × Int × List UInt8)) (q : Int) : Bool := match r with
  | .error e => e == q
  | .ok _ => false
theorem isErr_eq {r : Except Int (Int × Int × List UInt8)} {q : Int} (h : isErr r q = true) : r = .error q := by
  cases r with
  | ok p => cases h
  | error e => rw [show e = q by simpa [isErr] using h]
/-- Parse, where it fails. -/
theorem parse_err (s : ByteArray) (w : World) (hs : s.size ≤ 9223372036854775807) (hR : Rd w) {q : Int} (h : prsL (dl s) = .error q) :
    Calls Tryz.prog 18 #[.string s] w fun e w' => e = .returned (.tuple #[.agg #[.int .u8 0, .int .i64 0, .string ⟨#[]⟩], .int .i64 q]) ∧ Below w.heap.size w w' := by
  refine (parse_any s w hs hR).mono ?_
  rintro e w' ⟨hb, he⟩
  rw [h] at he
  exact ⟨he, hb⟩
theorem parse_ok (s : ByteArray) (w : World) (hs : s.size ≤ 9223372036854775807) (hR : Rd w) {k n : Int} {z : List UInt8} (h : prsL (dl s) = .ok (k, n, z)) :
    Calls Tryz.prog 18 #[.string s] w fun e w' => e = .returned (.tuple #[.agg #[.int .u8 k, .int .i64 n, .string ⟨z.toArray⟩], .int .i64 0]) ∧ Below w.heap.size w w' := by
  refine (parse_any s w hs hR).mono ?_
  rintro e w' ⟨hb, he⟩
  rw [h] at he
  exact ⟨he, hb⟩
def kw (i : Nat) : ByteArray := match i with
  | 0 => ⟨#[49, 46, 53, 48]⟩ | 1 => ⟨#[45, 48]⟩ | 2 => ⟨#[48, 48, 55]⟩ | 3 => ⟨#[46, 53]⟩ | _ => ⟨#[45, 48, 46, 48]⟩
theorem kw_err (i : Nat) : prsL (dl (kw i)) = .error 4 := by
  refine isErr_eq ?_
  match i with
  | 0 => decide +kernel
  | 1 => decide +kernel
  | 2 => decide +kernel
  | 3 => decide +kernel
  | n + 4 => show isErr (prsL [45, 48, 46, 48]) 4 = true; decide +kernel
theorem kw_big : prsL [57, 50, 50, 51, 51, 55, 50, 48, 51, 54, 56, 53, 52, 55, 55, 53, 56, 48, 56] = .error 9 := isErr_eq (by decide +kernel)
theorem kt1 : txtB ⟨2, 15000, ⟨#[]⟩⟩ = ⟨#[49, 46, 53]⟩ := dl_inj (by show txtM 2 15000 [] = [49, 46, 53]; decide +kernel)
theorem kt2 : txtB ⟨2, -5, ⟨#[]⟩⟩ = ⟨#[45, 48, 46, 48, 48, 48, 53]⟩ := dl_inj (by show txtM 2 (-5) [] = [45, 48, 46, 48, 48, 48, 53]; decide +kernel)
theorem kt3 : txtB ⟨2, 0, ⟨#[]⟩⟩ = ⟨#[48, 46, 48]⟩ := dl_inj (by show txtM 2 0 [] = [48, 46, 48]; decide +kernel)
theorem kt4 : txtB ⟨3, 0, ⟨#[97, 34, 98]⟩⟩ = ⟨#[34, 97, 92, 34, 98, 34]⟩ := dl_inj (by show txtM 3 0 [97, 34, 98] = [34, 97, 92, 34, 98, 34]; decide +kernel)

theorem kx0 (w : World) : (Instr.index 73 (.agg #[.string ⟨#[49, 46, 53, 48]⟩, .string ⟨#[45, 48]⟩, .string ⟨#[48, 48, 55]⟩, .string ⟨#[46, 53]⟩, .string ⟨#[45, 48, 46, 48]⟩]) (.int .i64 0)).run Tryz.prog w = .ok (.string ⟨#[49, 46, 53, 48]⟩) w := by kernel_rfl
theorem kx1 (w : World) : (Instr.index 73 (.agg #[.string ⟨#[49, 46, 53, 48]⟩, .string ⟨#[45, 48]⟩, .string ⟨#[48, 48, 55]⟩, .string ⟨#[46, 53]⟩, .string ⟨#[45, 48, 46, 48]⟩]) (.int .i64 1)).run Tryz.prog w = .ok (.string ⟨#[45, 48]⟩) w := by kernel_rfl
theorem kx2 (w : World) : (Instr.index 73 (.agg #[.string ⟨#[49, 46, 53, 48]⟩, .string ⟨#[45, 48]⟩, .string ⟨#[48, 48, 55]⟩, .string ⟨#[46, 53]⟩, .string ⟨#[45, 48, 46, 48]⟩]) (.int .i64 2)).run Tryz.prog w = .ok (.string ⟨#[48, 48, 55]⟩) w := by kernel_rfl
theorem kx3 (w : World) : (Instr.index 73 (.agg #[.string ⟨#[49, 46, 53, 48]⟩, .string ⟨#[45, 48]⟩, .string ⟨#[48, 48, 55]⟩, .string ⟨#[46, 53]⟩, .string ⟨#[45, 48, 46, 48]⟩]) (.int .i64 3)).run Tryz.prog w = .ok (.string ⟨#[46, 53]⟩) w := by kernel_rfl
theorem kx4 (w : World) : (Instr.index 73 (.agg #[.string ⟨#[49, 46, 53, 48]⟩, .string ⟨#[45, 48]⟩, .string ⟨#[48, 48, 55]⟩, .string ⟨#[46, 53]⟩, .string ⟨#[45, 48, 46, 48]⟩]) (.int .i64 4)).run Tryz.prog w = .ok (.string ⟨#[45, 48, 46, 48]⟩) w := by kernel_rfl
set_option maxRecDepth 100000 in
set_option maxHeartbeats 2000000 in
theorem known03 (w : World) (hR : Rd w) : Calls Tryz.prog 14 #[] w fun e w' => e = .returned (.bool true) ∧ Below w.heap.size w w' := by
  have HR := hide hR
  clear hR
  have ix : ∀ (i : Nat) (w : World), i < 5 → (Instr.index 73 (.agg #[.string ⟨#[49, 46, 53, 48]⟩, .string ⟨#[45, 48]⟩, .string ⟨#[48, 48, 55]⟩, .string ⟨#[46, 53]⟩, .string ⟨#[45, 48, 46, 48]⟩]) (.int .i64 (i : Nat))).run Tryz.prog w = .ok (.string (kw i)) w := fun i w hi => by
    match i, hi with
    | 0, _ => exact kx0 w
    | 1, _ => exact kx1 w
    | 2, _ => exact kx2 w
    | 3, _ => exact kx3 w
    | 4, _ => exact kx4 w
  have Hix := hide ix
  clear ix
  go_enter Tryz.func14, Tryz.ntmps14
  go_wp2
  go_loopw [8] (fun v8 wr => ∃ i : Nat, i ≤ 5 ∧ v8 = .int .i64 i ∧ Hid (Below w.heap.size w wr)) (fun v8 _ => 5 - (intOf v8).toNat)
  case atStart => exact ⟨0, by omega, rfl, Below.refl _ _⟩
  case round =>
    obtain ⟨i, hi, rfl, hq⟩ := hrel
    by_cases hlt : i < 5
    · have i1 : (i : Int) < 5 := by omega
      have hix := Hix.out i wr hlt
      have hp := parse_err (kw i) wr (by unfold kw; split <;> decide) (HR.out.below hq.out) (kw_err i)
      obtain ⟨z, hz⟩ : ∃ z, kw i = z := ⟨_, rfl⟩
      rw [hz] at hix hp
      have Hp := hide hp
      clear hp hz
      go_wp2_with fail
      (with_reducible refine Hp.out.mono ?_)
      rintro e V ⟨rfl, hb⟩
      have HB : Hid (Below w.heap.size w (V.alloc (.cells #[.int .u8 0, .int .i64 0, .string ⟨#[]⟩] 23))) := hide ((hq.out.trans (hb.mono hq.out.size)).alloc (Nat.le_trans hq.out.size hb.size) _)
      clear hb hq Hp
      go_wp2
      go_roundw
      case rel => exact ⟨i + 1, by omega, by go_num, HB.out⟩
      case measure => simp [intOf]; omega
    · obtain rfl : i = 5 := by omega
      have Hp := hide (parse_err ⟨#[57, 50, 50, 51, 51, 55, 50, 48, 51, 54, 56, 53, 52, 55, 55, 53, 56, 48, 56]⟩ wr (by decide) (HR.out.below hq.out) kw_big)
      go_wp2_with fail
      (with_reducible refine Hp.out.mono ?_)
      rintro e V ⟨rfl, hb⟩
      have HB : Hid (Below w.heap.size w (V.alloc (.cells #[.int .u8 0, .int .i64 0, .string ⟨#[]⟩] 23))) := hide ((hq.out.trans (hb.mono hq.out.size)).alloc (Nat.le_trans hq.out.size hb.size) _)
      have Ht := hide (text_any ⟨2, 15000, ⟨#[]⟩⟩ _ ⟨by decide, by decide, by decide⟩ (HR.out.below HB.out))
      rw [kt1] at Ht
      clear hb hq Hp
      go_wp2_with fail
      (with_reducible refine Ht.out.mono ?_)
      rintro e V1 ⟨rfl, hb⟩
      have HB1 : Hid (Below w.heap.size w V1) := hide (HB.out.trans (hb.mono HB.out.size))
      have Ht1 := hide (text_any ⟨2, -5, ⟨#[]⟩⟩ V1 ⟨by decide, by decide, by decide⟩ (HR.out.below HB1.out))
      rw [kt2] at Ht1
      clear hb Ht HB
      go_wp2_with fail
      (with_reducible refine Ht1.out.mono ?_)
      rintro e V2 ⟨rfl, hb⟩
      have HB2 : Hid (Below w.heap.size w V2) := hide (HB1.out.trans (hb.mono HB1.out.size))
      have Ht2 := hide (text_any ⟨2, 0, ⟨#[]⟩⟩ V2 ⟨by decide, by decide, by decide⟩ (HR.out.below HB2.out))
      rw [kt3] at Ht2
      clear hb Ht1 HB1
      go_wp2_with fail
      (with_reducible refine Ht2.out.mono ?_)
      rintro e V3 ⟨rfl, hb⟩
      have HB3 : Hid (Below w.heap.size w V3) := hide (HB2.out.trans (hb.mono HB2.out.size))
      have Ht3 := hide (text_any ⟨3, 0, ⟨#[97, 34, 98]⟩⟩ V3 ⟨by decide, by decide, by decide⟩ (HR.out.below HB3.out))
      rw [kt4] at Ht3
      clear hb Ht2 HB2
      go_wp2_with fail
      (with_reducible refine Ht3.out.mono ?_)
      rintro e V4 ⟨rfl, hb⟩
      have HB4 : Hid (Below w.heap.size w V4) := hide (HB3.out.trans (hb.mono HB3.out.size))
      clear hb Ht3 HB3
      go_wp2
      go_ret
      exact ⟨rfl, HB4.out⟩
end Go.Proofs.YtgfakdobajgnfaaGreatDoor
