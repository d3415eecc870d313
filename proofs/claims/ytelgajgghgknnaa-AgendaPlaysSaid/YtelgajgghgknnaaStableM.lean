/- The walks of slices' symMerge at a row of activations. -/
import Derived.Test.YtelgajgghgknnaaStableW
import Derived.Deep.CutRange
import Derived.Shelf.Abstract
namespace Go.Proofs.Ytelgajgghgknnaa
open Go Go.RowKit Go.MapKept Go.Sort

/-- The comparison g, with what it captured, of rows of block blk: it answers as cf, and turns nothing. -/
def CmpIs (g : Nat) (cb : Array Value) (cf : Ac → Ac → Int) (good : Ac → Prop) (blk : Nat) (w : World) : Prop :=
  ∀ x y : Ac, good x → good y → ∀ W, Only [blk] w W → Calls Try.prog g (#[x.val, y.val] ++ cb) W fun e w' => e = .returned (.int .i64 (cf x y)) ∧ Below W.heap.size W w'

/-- What the sort knows at each step. -/
structure At (good : Ac → Prop) (w : World) (blk off sz : Nat) (d : Array Ac) (wr : World) : Prop where
  size : d.size = sz
  row : RowOf wr blk off d
  only : Only [blk] w wr
  good : ∀ i, i < sz → good d[i]!
  lt : blk < w.heap.size

theorem At.drew {good : Ac → Prop} {w wr : World} {blk off sz : Nat} {d : Array Ac} (h : At good w blk off sz d wr) : At good w blk off sz d wr.drew := ⟨h.size, h.row.drew, h.only.drew, h.good, h.lt⟩
theorem At.below {good : Ac → Prop} {w wr w' : World} {blk off sz : Nat} {d : Array Ac} (h : At good w blk off sz d wr) (hb : Below wr.heap.size wr w') : At good w blk off sz d w' :=
  ⟨h.size, h.row.of_block (hb.block blk (Nat.lt_of_lt_of_le h.lt h.only.size)), h.only.trans (Only.of_below hb _), h.good, h.lt⟩
theorem At.at {good : Ac → Prop} {w wr : World} {blk off sz : Nat} {d : Array Ac} (h : At good w blk off sz d wr) {i : Nat} (hi : i < sz) : ∃ (r : Int) (a : Option Addr) (n c : Nat) (s : Int), d[i]!.val = .agg #[.int .i64 r, .slice a n c, .int .i64 s] ∧
    (wr.cell? ⟨blk, off + i * 3, none⟩ = some (.int .i64 r) ∧ wr.cell? ⟨blk, off + i * 3 + 1, none⟩ = some (.slice a n c) ∧ wr.cell? ⟨blk, off + i * 3 + 2, none⟩ = some (.int .i64 s)) ∧
    (wr.frozen? ⟨blk, off + i * 3, none⟩ = false ∧ wr.frozen? ⟨blk, off + i * 3 + 1, none⟩ = false ∧ wr.frozen? ⟨blk, off + i * 3 + 2, none⟩ = false) ∧ (d[i]!.rule = r ∧ d[i]!.x = .slice a n c ∧ d[i]!.sal = s) := by
  obtain ⟨⟨c0, c1, c2⟩, f, a, n, c, hx⟩ := h.row i (by rw [h.size]; exact hi)
  rw [hx] at c1
  exact ⟨d[i]!.rule, a, n, c, d[i]!.sal, by unfold Ac.val; rw [hx], ⟨c0, c1, c2⟩, f, rfl, hx, rfl⟩

theorem At.swapped {good : Ac → Prop} {w wr : World} {blk off sz : Nat} {d : Array Ac} (h : At good w blk off sz d wr) {i j : Nat} (hi : i < sz) (hj : j < sz) {r1 s1 r2 s2 : Int} {q1 q2 : Value}
    (e1 : d[i]!.rule = r1 ∧ d[i]!.x = q1 ∧ d[i]!.sal = s1) (e2 : d[j]!.rule = r2 ∧ d[j]!.x = q2 ∧ d[j]!.sal = s2) :
    ∃ W2, ((((((wr.setCell ⟨blk, off + i * 3, none⟩ (.int .i64 r2)).setCell ⟨blk, off + i * 3 + 1, none⟩ q2).setCell ⟨blk, off + i * 3 + 2, none⟩ (.int .i64 s2)).setCell ⟨blk, off + j * 3, none⟩ (.int .i64 r1)).setCell ⟨blk, off + j * 3 + 1, none⟩ q1).setCell ⟨blk, off + j * 3 + 2, none⟩ (.int .i64 s1)).drew = W2 ∧
      At good w blk off sz (swp d i j) W2 := by
  have hs := h.size
  obtain ⟨W2, hW, hr, ho⟩ := RowOf.swapped h.row h.only (i := i) (j := j) (by omega) (by omega) e1 e2
  refine ⟨W2, hW, (swp_size d i j).trans h.size, hr, ho, fun k hk => ?_, h.lt⟩
  rw [swp_get d (by omega) (by omega) k]
  split
  · exact h.good i hi
  · split
    · exact h.good j hj
    · exact h.good k hk

section
variable (g : Nat) (cb : Array Value) (cf : Ac → Ac → Int) (good : Ac → Prop) (w : World) (blk off cap sz : Nat)

set_option maxRecDepth 100000 in
set_option maxHeartbeats 2000000 in
theorem merge_left (eg : ∀ args w, (callFunc g args).run Try.prog w = .ok (.enter g args) w) (hS : SWO (fun x y => decide (cf x y < 0))) (hC : CmpIs g cb cf good blk w) (hsz : sz ≤ 1000000) (a b : Nat) (d : Array Ac) (wr : World) (h : At good w blk off sz d wr) (m : Nat) (hm : m = a + 1) (hab : a + 1 < b) (hb : b ≤ sz)
    (h2 : SortedIn (fun x y => decide (cf x y < 0)) (a + 1) b d) :
    Calls Try.prog 74 #[.slice (some ⟨blk, off, none⟩) sz cap, .int .i64 a, .int .i64 m, .int .i64 b, .func (.func g) #[] cb] wr fun e w' => e = .returned (.tuple #[]) ∧ ∃ d', PermIn a b d d' ∧ SortedIn (fun x y => decide (cf x y < 0)) a b d' ∧ At good w blk off sz d' w' := by
  have H := hide h
  have HC := hide hC
  have HS := hide hS
  have H2 := hide h2
  clear h hC hS h2
  have q1 : ((m : Int) - (a : Int) == 1) = true := by rw [beq_iff_eq]; omega
  have q2 : (a : Int) ≤ (m : Int) := by omega
  have q3 : m < b := by omega
  have HM := hide hm
  clear hm
  go_enter Try.func74, Try.ntmps74
  go_wp2
  go_loopw [10, 11] (fun vi vj wr' => ∃ i j : Nat, m ≤ i ∧ a < i ∧ i ≤ j ∧ j ≤ b ∧ vi = .int .i64 i ∧ vj = .int .i64 j ∧ Hid ((i = m ∨ decide (cf d[i - 1]! d[a]! < 0) = true) ∧ (j = b ∨ decide (cf d[j]! d[a]! < 0) = false)) ∧ Hid (At good w blk off sz d wr')) (fun i j _ => (intOf j - intOf i).toNat)
  case atStart => exact ⟨m, b, Nat.le_refl _, by have := HM.out; omega, by omega, Nat.le_refl _, rfl, rfl, ⟨.inl rfl, .inl rfl⟩, H.out⟩
  case round =>
    obtain ⟨i, j, hi, hi0, hij, hj, rfl, rfl, hq, hA⟩ := hrel
    by_cases hlt : i < j
    · obtain ⟨h, hh⟩ : ∃ h : Nat, h = (i + j) / 2 := ⟨_, rfl⟩
      have b1 : i ≤ h := by omega
      have b2 : h < j := by omega
      have eh : ((i : Int) + (j : Int)) / 2 = (h : Int) := by omega
      obtain ⟨r1, a1, n1, k1, s1, hv1, ⟨x0, x1, x2⟩, _, _⟩ := hA.out.at (i := h) (by omega)
      obtain ⟨r2, a2, n2, k2, s2, hv2, ⟨y0, y1, y2⟩, _, _⟩ := hA.out.at (i := a) (by omega)
      have hcall := HC.out d[h]! d[a]! (hA.out.good h (by omega)) (hA.out.good a (by omega)) wr.drew hA.out.only.drew
      rw [hv1, hv2] at hcall
      have Hcall := hide hcall
      have Eh := hide eh
      have Hh := hide hh
      have hblk := hide (Nat.lt_of_lt_of_le hA.out.lt hA.out.only.size)
      obtain ⟨q, hqe⟩ : ∃ q, cf d[h]! d[a]! = q := ⟨_, rfl⟩
      have hk : ∀ V, Below wr.drew.heap.size wr.drew V → (V.cell? ⟨blk, off + h * 3, none⟩ = some (.int .i64 r1) ∧ V.cell? ⟨blk, off + h * 3 + 1, none⟩ = some (.slice a1 n1 k1) ∧ V.cell? ⟨blk, off + h * 3 + 2, none⟩ = some (.int .i64 s1)) ∧
          (V.cell? ⟨blk, off + a * 3, none⟩ = some (.int .i64 r2) ∧ V.cell? ⟨blk, off + a * 3 + 1, none⟩ = some (.slice a2 n2 k2) ∧ V.cell? ⟨blk, off + a * 3 + 2, none⟩ = some (.int .i64 s2)) := fun V hb =>
        ⟨⟨(hb.cell (p := ⟨blk, off + h * 3, none⟩) hblk).trans x0, (hb.cell (p := ⟨blk, off + h * 3 + 1, none⟩) hblk).trans x1, (hb.cell (p := ⟨blk, off + h * 3 + 2, none⟩) hblk).trans x2⟩, (hb.cell (p := ⟨blk, off + a * 3, none⟩) hblk).trans y0, (hb.cell (p := ⟨blk, off + a * 3 + 1, none⟩) hblk).trans y1, (hb.cell (p := ⟨blk, off + a * 3 + 2, none⟩) hblk).trans y2⟩
      have Hk := hide hk
      rw [hqe] at hcall Hcall
      have Hqe := hide hqe
      clear hcall hqe hk eh hh hv1 hv2
      go_wp2_with fail
      rw [Eh.out]
      have i1 : (0 : Int) ≤ (h : Int) := by omega
      have i2 : (h : Int) < (sz : Int) := by omega
      have i3 : (0 : Int) ≤ (a : Int) := by omega
      have i4 : (a : Int) < (sz : Int) := by omega
      go_region_held3 (fun V => V.cell? ⟨blk, off + h * 3, none⟩ = some (.int .i64 r1) ∧ V.cell? ⟨blk, off + h * 3 + 1, none⟩ = some (.slice a1 n1 k1) ∧ V.cell? ⟨blk, off + h * 3 + 2, none⟩ = some (.int .i64 s1) ∧ V.cell? ⟨blk, off + a * 3, none⟩ = some (.int .i64 r2) ∧ V.cell? ⟨blk, off + a * 3 + 1, none⟩ = some (.slice a2 n2 k2) ∧ V.cell? ⟨blk, off + a * 3 + 2, none⟩ = some (.int .i64 s2)) (go_keep)
        ((go_at_fn g; have hq := Hcall.out; with_reducible refine Calls.mono hq ?_; clear hq; rintro e V ⟨rfl, hbV⟩; obtain ⟨⟨z0, z1, z2⟩, z3, z4, z5⟩ := Hk.out V hbV; have HbV := hide hbV; clear hbV))
      have hAV := hide ((hA.out.drew).below HbV.out)
      clear z0 z1 z2 z3 z4 z5 x0 x1 x2 y0 y1 y2 HbV Hk Hcall i1 i2 i3 i4
      by_cases hneg : q < 0
      · go_wp2
        go_roundw
        case rel => exact ⟨h + 1, j, by omega, by omega, by omega, hj, by go_num, rfl, ⟨.inr (by rw [Nat.add_sub_cancel, Hqe.out]; exact decide_eq_true hneg), hq.out.2⟩, hAV.out⟩
        case measure => simp [intOf]; omega
      · go_wp2
        go_roundw
        case rel => exact ⟨i, h, hi, hi0, b1, by omega, rfl, rfl, ⟨hq.out.1, .inr (by rw [Hqe.out]; exact decide_eq_false hneg)⟩, hAV.out⟩
        case measure => simp [intOf]; omega
    · obtain rfl : i = j := by omega
      go_wp2_with fail
      go_loopw [13] (fun vk wr' => ∃ (k : Nat) (dk : Array Ac), a ≤ k ∧ k + 1 ≤ i ∧ vk = .int .i64 k ∧ Hid (Moved (rotIx a (a + 1) (k + 1)) d dk) ∧ Hid (At good w blk off sz dk wr')) (fun k _ => i - (intOf k).toNat)
      case atStart => exact ⟨a, d, Nat.le_refl _, hi0, rfl, (Moved.refl d).congr fun x => (rot_none2 a (a + 1) x).symm, hA.out⟩
      case round =>
        obtain ⟨k, dk, hak, hki, rfl, hm, hA'⟩ := hrel
        by_cases hlt2 : k + 1 < i
        · obtain ⟨r1, a1, n1, k1, s1, _, ⟨x0, x1, x2⟩, ⟨f0, f1, f2⟩, e1'⟩ := hA'.out.at (i := k) (by omega)
          obtain ⟨r2, a2, n2, k2, s2, _, ⟨y0, y1, y2⟩, ⟨g0, g1, g2⟩, e2'⟩ := hA'.out.at (i := k + 1) (by omega)
          have E1 := hide e1'
          have E2 := hide e2'
          clear e1' e2'
          have ilt : (k : Int) < (i : Int) - 1 := by omega
          go_wp2_with fail
          have i1 : IntKind.i64.wrap ((k : Int) + 1) = (k : Int) + 1 := IntWalk.i64_in _ (by omega)
          have i3 : (0 : Int) ≤ (k : Int) + 1 := by omega
          have i5 : (k : Int) + 1 < (sz : Int) := by omega
          have i6 : (k : Int) < (sz : Int) := by omega
          have i7 : ((k : Int) + 1).toNat = k + 1 := by omega
          go_region
          clear i1 i3 i5 i6 i7
          obtain ⟨W2, hW2, hA2⟩ := hA'.out.swapped (i := k) (j := k + 1) (by omega) (by omega) E1.out E2.out
          rw [hW2]
          have HA2 := hide hA2
          clear hW2 hA2 x0 x1 x2 y0 y1 y2 f0 f1 f2 g0 g1 g2 ilt
          go_wp2
          go_roundw
          case rel => exact ⟨k + 1, _, by omega, by omega, by go_num, rot_front_step d dk hm.out hak (by have := H.out.size; omega), HA2.out⟩
          case measure => simp [intOf]; omega
        · obtain rfl : i = k + 1 := by omega
          go_wp2
          refine bodyPost_ret (results_none rfl _ _ _) rfl ?_
          refine ⟨rfl, dk, widen (perm_rot hm.out (by omega) (by omega) (by have := H.out.size; omega)) (by omega) (by omega) (by have := H.out.size; omega), ?_, hA'.out⟩
          exact sorted_front HS.out H2.out (by omega) hj (by have h1 := hq.out.1; rw [HM.out] at h1; exact h1) hq.out.2 hm.out

set_option maxRecDepth 100000 in
set_option maxHeartbeats 2000000 in
theorem merge_right (eg : ∀ args w, (callFunc g args).run Try.prog w = .ok (.enter g args) w) (hS : SWO (fun x y => decide (cf x y < 0))) (hC : CmpIs g cb cf good blk w) (hsz : sz ≤ 1000000) (a b : Nat) (d : Array Ac) (wr : World) (h : At good w blk off sz d wr) (m : Nat) (hm : b = m + 1) (hab : a + 1 < m) (hb : b ≤ sz)
    (h2 : SortedIn (fun x y => decide (cf x y < 0)) a m d) :
    Calls Try.prog 74 #[.slice (some ⟨blk, off, none⟩) sz cap, .int .i64 a, .int .i64 m, .int .i64 b, .func (.func g) #[] cb] wr fun e w' => e = .returned (.tuple #[]) ∧ ∃ d', PermIn a b d d' ∧ SortedIn (fun x y => decide (cf x y < 0)) a b d' ∧ At good w blk off sz d' w' := by
  have H := hide h
  have HC := hide hC
  have HS := hide hS
  have H2 := hide h2
  clear h hC hS h2
  have q1 : ((m : Int) - (a : Int) == 1) = false := by rw [beq_eq_false_iff_ne]; omega
  have q0 : ((b : Int) - (m : Int) == 1) = true := by rw [beq_iff_eq]; omega
  have q2 : (m : Int) ≤ (b : Int) := by omega
  have q3 : m < b := by omega
  have HM := hide hm
  clear hm
  go_enter Try.func74, Try.ntmps74
  go_wp2
  go_loopw [14, 15] (fun vi vj wr' => ∃ i j : Nat, a ≤ i ∧ i ≤ j ∧ j ≤ m ∧ vi = .int .i64 i ∧ vj = .int .i64 j ∧ Hid ((i = a ∨ decide (cf d[m]! d[i - 1]! < 0) = false) ∧ (j = m ∨ decide (cf d[m]! d[j]! < 0) = true)) ∧ Hid (At good w blk off sz d wr')) (fun i j _ => (intOf j - intOf i).toNat)
  case atStart => exact ⟨a, m, Nat.le_refl _, by omega, Nat.le_refl _, rfl, rfl, ⟨.inl rfl, .inl rfl⟩, H.out⟩
  case round =>
    obtain ⟨i, j, hi, hij, hj, rfl, rfl, hq, hA⟩ := hrel
    by_cases hlt : i < j
    · obtain ⟨h, hh⟩ : ∃ h : Nat, h = (i + j) / 2 := ⟨_, rfl⟩
      have b1 : i ≤ h := by omega
      have b2 : h < j := by omega
      have eh : ((i : Int) + (j : Int)) / 2 = (h : Int) := by omega
      obtain ⟨r1, a1, n1, k1, s1, hv1, ⟨x0, x1, x2⟩, _, _⟩ := hA.out.at (i := h) (by omega)
      obtain ⟨r2, a2, n2, k2, s2, hv2, ⟨y0, y1, y2⟩, _, _⟩ := hA.out.at (i := m) (by omega)
      have hcall := HC.out d[m]! d[h]! (hA.out.good m (by omega)) (hA.out.good h (by omega)) wr.drew hA.out.only.drew
      rw [hv2, hv1] at hcall
      have Hcall := hide hcall
      have Eh := hide eh
      have Hh := hide hh
      have hblk := hide (Nat.lt_of_lt_of_le hA.out.lt hA.out.only.size)
      obtain ⟨q, hqe⟩ : ∃ q, cf d[m]! d[h]! = q := ⟨_, rfl⟩
      have hk : ∀ V, Below wr.drew.heap.size wr.drew V → (V.cell? ⟨blk, off + h * 3, none⟩ = some (.int .i64 r1) ∧ V.cell? ⟨blk, off + h * 3 + 1, none⟩ = some (.slice a1 n1 k1) ∧ V.cell? ⟨blk, off + h * 3 + 2, none⟩ = some (.int .i64 s1)) ∧
          (V.cell? ⟨blk, off + m * 3, none⟩ = some (.int .i64 r2) ∧ V.cell? ⟨blk, off + m * 3 + 1, none⟩ = some (.slice a2 n2 k2) ∧ V.cell? ⟨blk, off + m * 3 + 2, none⟩ = some (.int .i64 s2)) := fun V hb =>
        ⟨⟨(hb.cell (p := ⟨blk, off + h * 3, none⟩) hblk).trans x0, (hb.cell (p := ⟨blk, off + h * 3 + 1, none⟩) hblk).trans x1, (hb.cell (p := ⟨blk, off + h * 3 + 2, none⟩) hblk).trans x2⟩, (hb.cell (p := ⟨blk, off + m * 3, none⟩) hblk).trans y0, (hb.cell (p := ⟨blk, off + m * 3 + 1, none⟩) hblk).trans y1, (hb.cell (p := ⟨blk, off + m * 3 + 2, none⟩) hblk).trans y2⟩
      have Hk := hide hk
      rw [hqe] at hcall Hcall
      have Hqe := hide hqe
      clear hcall hqe hk eh hh hv1 hv2
      go_wp2_with fail
      rw [Eh.out]
      have i1 : (0 : Int) ≤ (h : Int) := by omega
      have i2 : (h : Int) < (sz : Int) := by omega
      have i3 : (0 : Int) ≤ (m : Int) := by omega
      have i4 : (m : Int) < (sz : Int) := by omega
      go_region_held3 (fun V => V.cell? ⟨blk, off + h * 3, none⟩ = some (.int .i64 r1) ∧ V.cell? ⟨blk, off + h * 3 + 1, none⟩ = some (.slice a1 n1 k1) ∧ V.cell? ⟨blk, off + h * 3 + 2, none⟩ = some (.int .i64 s1) ∧ V.cell? ⟨blk, off + m * 3, none⟩ = some (.int .i64 r2) ∧ V.cell? ⟨blk, off + m * 3 + 1, none⟩ = some (.slice a2 n2 k2) ∧ V.cell? ⟨blk, off + m * 3 + 2, none⟩ = some (.int .i64 s2)) (go_keep)
        ((go_at_fn g; have hq := Hcall.out; with_reducible refine Calls.mono hq ?_; clear hq; rintro e V ⟨rfl, hbV⟩; obtain ⟨⟨z0, z1, z2⟩, z3, z4, z5⟩ := Hk.out V hbV; have HbV := hide hbV; clear hbV))
      have hAV := hide ((hA.out.drew).below HbV.out)
      clear z0 z1 z2 z3 z4 z5 x0 x1 x2 y0 y1 y2 HbV Hk Hcall i1 i2 i3 i4
      go_wp2
      · have hx : (!decide (q < 0)) = true := by assumption
        go_roundw
        case rel => exact ⟨h + 1, j, by omega, by omega, hj, by go_num, rfl, ⟨.inr (by rw [Nat.add_sub_cancel, Hqe.out]; simpa using hx), hq.out.2⟩, hAV.out⟩
        case measure => simp [intOf]; omega
      · have hx : (!decide (q < 0)) = false := by assumption
        go_roundw
        case rel => exact ⟨i, h, hi, b1, by omega, rfl, rfl, ⟨hq.out.1, .inr (by rw [Hqe.out]; simpa using hx)⟩, hAV.out⟩
        case measure => simp [intOf]; omega
    · obtain rfl : i = j := by omega
      go_wp2_with fail
      go_loopw [17] (fun vk wr' => ∃ (k : Nat) (dk : Array Ac), i ≤ k ∧ k ≤ m ∧ vk = .int .i64 k ∧ Hid (Moved (rotIx k m (m + 1)) d dk) ∧ Hid (At good w blk off sz dk wr')) (fun k _ => (intOf k).toNat)
      case atStart => exact ⟨m, d, hj, Nat.le_refl _, rfl, (Moved.refl d).congr fun x => (rot_none1 m (m + 1) x).symm, hA.out⟩
      case round =>
        obtain ⟨k, dk, hak, hki, rfl, hm, hA'⟩ := hrel
        by_cases hlt2 : i < k
        · obtain ⟨k, rfl⟩ : ∃ k', k = k' + 1 := ⟨k - 1, by omega⟩
          obtain ⟨r1, a1, n1, k1, s1, _, ⟨x0, x1, x2⟩, ⟨f0, f1, f2⟩, e1'⟩ := hA'.out.at (i := k + 1) (by omega)
          obtain ⟨r2, a2, n2, k2, s2, _, ⟨y0, y1, y2⟩, ⟨g0, g1, g2⟩, e2'⟩ := hA'.out.at (i := k) (by omega)
          have E1 := hide e1'
          have E2 := hide e2'
          clear e1' e2'
          have ilt : (i : Int) < (k : Int) + 1 := by omega
          go_wp2_with fail
          have i1 : IntKind.i64.wrap (k : Int) = (k : Int) := IntWalk.i64_in _ (by omega)
          have i3 : (0 : Int) ≤ (k : Int) + 1 := by omega
          have i5 : (k : Int) + 1 < (sz : Int) := by omega
          have i6 : (k : Int) < (sz : Int) := by omega
          have i7 : ((k : Int) + 1).toNat = k + 1 := by omega
          go_region
          clear i1 i3 i5 i6 i7
          obtain ⟨W2, hW2, hA2⟩ := hA'.out.swapped (i := k + 1) (j := k) (by omega) (by omega) E1.out E2.out
          rw [hW2]
          have HA2 := hide hA2
          clear hW2 hA2 x0 x1 x2 y0 y1 y2 f0 f1 f2 g0 g1 g2 ilt
          go_wp2
          go_roundw
          case rel => exact ⟨k, _, by omega, by omega, by first | rfl | go_num, rot_back_step d dk hm.out hki (by have := H.out.size; omega), HA2.out⟩
          case measure => simp [intOf]; try omega
        · obtain rfl : i = k := by omega
          go_wp2
          refine bodyPost_ret (results_none rfl _ _ _) rfl ?_
          have HMo := HM.out
          subst HMo
          refine ⟨rfl, dk, widen (perm_rot hm.out (by omega) (by omega) (by have := H.out.size; omega)) (by omega) (by omega) (by have := H.out.size; omega), ?_, hA'.out⟩
          exact sorted_back HS.out H2.out (by omega) hj hq.out.1 hq.out.2 hm.out
end
end Go.Proofs.Ytelgajgghgknnaa
