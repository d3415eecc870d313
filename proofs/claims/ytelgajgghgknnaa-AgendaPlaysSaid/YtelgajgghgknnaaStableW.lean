/- The walks of slices' stable sort at a row of activations. -/
import Derived.Test.YtelgajgghgknnaaAc
import Derived.Deep.RegionHeld3
import Derived.BigRegion
namespace Go.Proofs.Ytelgajgghgknnaa
open Go Go.RowKit Go.MapKept Go.Sort

set_option maxHeartbeats 1000000 in
theorem swapRange_any (blk off cap a b n : Nat) (d : Array Ac) (f : Value) (w : World) (h : RowOf w blk off d) (hab : a + n ≤ b) (hb : b + n ≤ d.size) (hsz : d.size ≤ 1000000) :
    Calls Try.prog 92 #[.slice (some ⟨blk, off, none⟩) d.size cap, .int .i64 a, .int .i64 b, .int .i64 n, f] w fun e w' => e = .returned (.tuple #[]) ∧ ∃ d', Moved (swrIx a b n) d d' ∧ RowOf w' blk off d' ∧ Only [blk] w w' := by
  have H := hide h
  clear h
  go_enter Try.func92, Try.ntmps92
  go_wp2
  go_loopw [10] (fun i wr => ∃ (k : Nat) (dk : Array Ac), k ≤ n ∧ i = .int .i64 k ∧ Hid (Moved (swrIx a b k) d dk) ∧ Hid (RowOf wr blk off dk) ∧ Hid (Only [blk] w wr)) (fun i _ => n - (intOf i).toNat)
  case atStart => exact ⟨0, d, Nat.zero_le _, rfl, swr_zero d a b, H.out, Only.refl _ _⟩
  case round =>
    obtain ⟨k, dk, hk, rfl, hm, hr, ho⟩ := hrel
    by_cases hlt : k < n
    · have hs := hm.out.1
      obtain ⟨⟨x0, x1, x2⟩, ⟨y0, y1, y2⟩, ax, nx, cx, hq1⟩ := hr.out (a + k) (by omega)
      obtain ⟨⟨u0, u1, u2⟩, ⟨v0, v1, v2⟩, au, nu, cu, hq2⟩ := hr.out (b + k) (by omega)
      obtain ⟨r1, hr1⟩ : ∃ r, dk[a + k]!.rule = r := ⟨_, rfl⟩
      obtain ⟨s1, hs1⟩ : ∃ r, dk[a + k]!.sal = r := ⟨_, rfl⟩
      obtain ⟨r2, hr2⟩ : ∃ r, dk[b + k]!.rule = r := ⟨_, rfl⟩
      obtain ⟨s2, hs2⟩ : ∃ r, dk[b + k]!.sal = r := ⟨_, rfl⟩
      rw [hr1] at x0
      rw [hq1] at x1
      rw [hs1] at x2
      rw [hr2] at u0
      rw [hq2] at u1
      rw [hs2] at u2
      have E1 := hide (And.intro hr1 (And.intro hq1 hs1))
      have E2 := hide (And.intro hr2 (And.intro hq2 hs2))
      have Hs := hide hs
      clear hr1 hq1 hs1 hr2 hq2 hs2 hs
      go_wp2_with fail
      have i1 : IntKind.i64.wrap ((a : Int) + (k : Int)) = (a : Int) + (k : Int) := IntWalk.i64_in _ (by omega)
      have i2 : IntKind.i64.wrap ((b : Int) + (k : Int)) = (b : Int) + (k : Int) := IntWalk.i64_in _ (by omega)
      have i3 : (0 : Int) ≤ (a : Int) + (k : Int) := by omega
      have i4 : (0 : Int) ≤ (b : Int) + (k : Int) := by omega
      have i5 : (a : Int) + (k : Int) < (d.size : Int) := by omega
      have i6 : (b : Int) + (k : Int) < (d.size : Int) := by omega
      have i7 : ((a : Int) + (k : Int)).toNat = a + k := by omega
      have i8 : ((b : Int) + (k : Int)).toNat = b + k := by omega
      go_region
      clear i1 i2 i3 i4 i5 i6 i7 i8
      have hs := Hs.out
      obtain ⟨W2, hW2, hr2, ho2⟩ := RowOf.swapped (i := a + k) (j := b + k) hr.out ho.out (by omega) (by omega) E1.out E2.out
      have R' := hide hr2
      have O' := hide ho2
      rw [hW2]
      clear hW2 hr2 ho2 hs x0 x1 x2 u0 u1 u2 y0 y1 y2 v0 v1 v2
      go_wp2
      go_roundw
      case rel => exact ⟨k + 1, _, by omega, by go_num, swr_step d dk hm.out (by omega) (by omega), R'.out, O'.out⟩
      case measure => simp [intOf]; omega
    · obtain rfl : k = n := by omega
      go_wp2
      go_end0
      exact ⟨rfl, dk, hm.out, hr.out, ho.out⟩

theorem swapRange_at (blk off cap sz a b n : Nat) (A B N : Int) (hA : A = a) (hB : B = b) (hN : N = n) (d : Array Ac) (f : Value) (w : World) (hd : d.size = sz) (h : RowOf w blk off d) (hab : a + n ≤ b) (hb : b + n ≤ sz) (hsz : sz ≤ 1000000) :
    Calls Try.prog 92 #[.slice (some ⟨blk, off, none⟩) sz cap, .int .i64 A, .int .i64 B, .int .i64 N, f] w fun e w' => e = .returned (.tuple #[]) ∧ ∃ d', Moved (swrIx a b n) d d' ∧ RowOf w' blk off d' ∧ Only [blk] w w' := by
  subst hA hB hN hd
  exact swapRange_any blk off cap a b n d f w h hab hb hsz

set_option maxHeartbeats 1000000 in
theorem rotate_any (blk off cap sz a m b : Nat) (d : Array Ac) (f : Value) (w : World) (hd : d.size = sz) (h : RowOf w blk off d) (ham : a < m) (hmb : m < b) (hb : b ≤ sz) (hsz : sz ≤ 1000000) :
    Calls Try.prog 86 #[.slice (some ⟨blk, off, none⟩) sz cap, .int .i64 a, .int .i64 m, .int .i64 b, f] w fun e w' => e = .returned (.tuple #[]) ∧ ∃ d', Moved (rotIx a m b) d d' ∧ RowOf w' blk off d' ∧ Only [blk] w w' := by
  have H := hide h
  have Hd := hide hd
  clear h hd
  go_enter Try.func86, Try.ntmps86
  go_wp2
  have e1 : ((m : Int) - (a : Int)) = ((m - a : Nat) : Int) := by omega
  have e2 : ((b : Int) - (m : Int)) = ((b - m : Nat) : Int) := by omega
  rw [e1, e2]
  clear e1 e2
  go_loopw [10, 11] (fun vi vj wr => ∃ (i j : Nat) (dk : Array Ac) (g : Nat → Nat), 0 < i ∧ 0 < j ∧ i + a ≤ m ∧ m + j ≤ b ∧ vi = .int .i64 i ∧ vj = .int .i64 j ∧ Hid (Moved g d dk ∧ ∀ x, g (rotIx (m - i) m (m + j) x) = rotIx a m b x) ∧ Hid (RowOf wr blk off dk) ∧ Hid (Only [blk] w wr)) (fun i j _ => (intOf i).toNat + (intOf j).toNat)
  case atStart => exact ⟨m - a, b - m, d, fun x => x, by omega, by omega, by omega, by omega, rfl, rfl, ⟨Moved.refl d, fun x => by rw [show m - (m - a) = a by omega, show m + (b - m) = b by omega]⟩, H.out, Only.refl _ _⟩
  case round =>
    obtain ⟨i, j, dk, g, hi, hj, hia, hjb, rfl, rfl, hm, hr, ho⟩ := hrel
    have hs := hm.out.1.1.trans Hd.out
    by_cases hij : i = j
    · subst hij
      have hb1 : ((i : Int) != (i : Int)) = false := by simp
      have Hs := hide hs
      clear hs
      go_wp2_with fail
      refine (swapRange_at blk off cap sz (m - i) m i _ _ _ (by omega) rfl rfl dk _ _ Hs.out hr.out (by omega) (by omega) hsz).mono ?_
      rintro e w' ⟨rfl, d', h1, h2, h3⟩
      have H1 := hide h1
      have H2 := hide h2
      have H3 := hide h3
      clear h1 h2 h3
      go_wp2
      go_end0
      exact ⟨rfl, d', (hm.out.1.trans H1.out).congr fun x => by rw [rot_last m i x (by omega)]; exact hm.out.2 x, H2.out, ho.out.trans H3.out⟩
    · by_cases hlt : j < i
      · have hb1 : ((i : Int) != (j : Int)) = true := by rw [bne_iff_ne]; omega
        have hb2 : (j : Int) < (i : Int) := by omega
        have Hs := hide hs
        clear hs hij
        go_wp2_with fail
        refine (swapRange_at blk off cap sz (m - i) m j _ _ _ (by omega) rfl rfl dk _ _ Hs.out hr.out (by omega) (by omega) hsz).mono ?_
        rintro e w' ⟨rfl, d', h1, h2, h3⟩
        have H1 := hide h1
        have H2 := hide h2
        have H3 := hide h3
        clear h1 h2 h3
        go_wp2
        go_roundw
        case rel => exact ⟨i - j, j, d', _, by omega, by omega, by omega, by omega, by go_num, rfl, ⟨hm.out.1.trans H1.out, fun x => by show g _ = _; rw [rot_left m i j x (by omega) (by omega)]; exact hm.out.2 x⟩, H2.out, ho.out.trans H3.out⟩
        case measure => simp [intOf]; omega
      · have hb1 : ((i : Int) != (j : Int)) = true := by rw [bne_iff_ne]; omega
        have hb2 : ¬ (j : Int) < (i : Int) := by omega
        have hlt2 : i < j := by omega
        have Hs := hide hs
        clear hs hij
        go_wp2_with fail
        refine (swapRange_at blk off cap sz (m - i) (m + j - i) i _ _ _ (by omega) (by omega) rfl dk _ _ Hs.out hr.out (by omega) (by omega) hsz).mono ?_
        rintro e w' ⟨rfl, d', h1, h2, h3⟩
        have H1 := hide h1
        have H2 := hide h2
        have H3 := hide h3
        clear h1 h2 h3
        go_wp2
        go_roundw
        case rel => exact ⟨i, j - i, d', _, by omega, by omega, by omega, by omega, rfl, by go_num, ⟨hm.out.1.trans H1.out, fun x => by show g _ = _; rw [rot_right m i j x (by omega) (by omega)]; exact hm.out.2 x⟩, H2.out, ho.out.trans H3.out⟩
        case measure => simp [intOf]; omega
end Go.Proofs.Ytelgajgghgknnaa
