/- The walks of slices' insertion sort and stable sort at a row of activations. -/
import Derived.Test.YtelgajgghgknnaaStableN
import Derived.Sort.WalkA
namespace Go.Proofs.Ytelgajgghgknnaa
open Go Go.RowKit Go.MapKept Go.Sort

section
variable (g : Nat) (cb : Array Value) (cf : Ac → Ac → Int) (good : Ac → Prop) (w : World) (blk off cap sz : Nat)

set_option maxRecDepth 100000 in
set_option maxHeartbeats 2000000 in
theorem insertion_any (eg : ∀ args w, (callFunc g args).run Try.prog w = .ok (.enter g args) w) (hC : CmpIs g cb cf good blk w) (hsz : sz ≤ 1000000) (a b : Nat) (d : Array Ac) (wr : World) (h : At good w blk off sz d wr) (hab : a ≤ b) (hb : b ≤ sz) :
    Calls Try.prog 73 #[.slice (some ⟨blk, off, none⟩) sz cap, .int .i64 a, .int .i64 b, .func (.func g) #[] cb] wr fun e w' => e = .returned (.tuple #[]) ∧ At good w blk off sz (insertionSort (fun x y => decide (cf x y < 0)) d a b) w' := by
  have H := hide h
  have HC := hide hC
  clear h hC
  go_enter Try.func73, Try.ntmps73
  go_wp2
  go_loopg [8] (b - a) (fun g1 vi wr' => ∃ (i : Nat) (dk : Array Ac), vi = .int .i64 i ∧ a < i ∧ i ≤ b + 1 ∧ b + 1 - i ≤ g1 + 1 ∧ Hid (At good w blk off sz dk wr') ∧ Hid (insOuter (fun x y => decide (cf x y < 0)) a b i dk = insOuter (fun x y => decide (cf x y < 0)) a b (a + 1) d))
  case atStart => exact ⟨a + 1, d, by go_num, by omega, by omega, by omega, H.out, rfl⟩
  case round =>
    obtain ⟨i, dk, rfl, hai, hib, hg1, hA, HO⟩ := hrel
    by_cases hlt : i < b
    · go_wp2
      go_loopg [9] i (fun g2 vj wr2 => ∃ (j : Nat) (dj : Array Ac), vj = .int .i64 j ∧ a ≤ j ∧ j ≤ i ∧ j ≤ g2 ∧ Hid (At good w blk off sz dj wr2) ∧ Hid (insInner (fun x y => decide (cf x y < 0)) a j dj = insInner (fun x y => decide (cf x y < 0)) a i dk))
      case atStart => exact ⟨i, dk, rfl, by omega, Nat.le_refl _, Nat.le_refl _, hA, rfl⟩
      case round =>
        obtain ⟨j, dj, rfl, haj, hji, hg2, hAj, HI⟩ := hrel
        have out : (j ≤ a ∨ (fun x y => decide (cf x y < 0)) dj[j]! dj[j - 1]! = false) → Hid (insOuter (fun x y => decide (cf x y < 0)) a b (i + 1) dj = insOuter (fun x y => decide (cf x y < 0)) a b (a + 1) d) := fun hs => by
          show _ = _
          rw [← HO.out, insOuter_go _ _ _ _ _ hlt, ← HI.out, insInner_stop _ _ _ _ hs]
        have OUT := hide out
        clear out
        by_cases hja : a < j
        · obtain ⟨k, rfl⟩ : ∃ k, j = k + 1 := ⟨j - 1, by omega⟩
          obtain ⟨r1, a1, n1, k1, s1, hv1, ⟨x0, x1, x2⟩, ⟨f0, f1, f2⟩, e1'⟩ := hAj.out.at (i := k + 1) (by omega)
          obtain ⟨r2, a2, n2, k2, s2, hv2, ⟨y0, y1, y2⟩, ⟨g0, g1', g2'⟩, e2'⟩ := hAj.out.at (i := k) (by omega)
          have E1 := hide e1'
          have E2 := hide e2'
          have hcall := HC.out dj[k + 1]! dj[k]! (hAj.out.good (k + 1) (by omega)) (hAj.out.good k (by omega)) wr.drew hAj.out.only.drew
          rw [hv1, hv2] at hcall
          have Hcall := hide hcall
          have hblk := hide (Nat.lt_of_lt_of_le hAj.out.lt hAj.out.only.size)
          obtain ⟨q, hqe⟩ : ∃ q, cf dj[k + 1]! dj[k]! = q := ⟨_, rfl⟩
          have hk : ∀ V, Below wr.drew.heap.size wr.drew V → (V.cell? ⟨blk, off + (k + 1) * 3, none⟩ = some (.int .i64 r1) ∧ V.cell? ⟨blk, off + (k + 1) * 3 + 1, none⟩ = some (.slice a1 n1 k1) ∧ V.cell? ⟨blk, off + (k + 1) * 3 + 2, none⟩ = some (.int .i64 s1)) ∧
              (V.cell? ⟨blk, off + k * 3, none⟩ = some (.int .i64 r2) ∧ V.cell? ⟨blk, off + k * 3 + 1, none⟩ = some (.slice a2 n2 k2) ∧ V.cell? ⟨blk, off + k * 3 + 2, none⟩ = some (.int .i64 s2)) := fun V hb =>
            ⟨⟨(hb.cell (p := ⟨blk, off + (k + 1) * 3, none⟩) hblk).trans x0, (hb.cell (p := ⟨blk, off + (k + 1) * 3 + 1, none⟩) hblk).trans x1, (hb.cell (p := ⟨blk, off + (k + 1) * 3 + 2, none⟩) hblk).trans x2⟩, (hb.cell (p := ⟨blk, off + k * 3, none⟩) hblk).trans y0, (hb.cell (p := ⟨blk, off + k * 3 + 1, none⟩) hblk).trans y1, (hb.cell (p := ⟨blk, off + k * 3 + 2, none⟩) hblk).trans y2⟩
          have Hk := hide hk
          rw [hqe] at hcall Hcall
          have Hqe := hide hqe
          clear hcall hqe hk hv1 hv2 e1' e2'
          go_wp2_with fail
          have i0 : IntKind.i64.wrap (k : Int) = (k : Int) := IntWalk.i64_in _ (by omega)
          have i1 : (0 : Int) ≤ (k : Int) := by omega
          have i2 : (k : Int) < (sz : Int) := by omega
          have i3 : (0 : Int) ≤ (k : Int) + 1 := by omega
          have i4 : (k : Int) + 1 < (sz : Int) := by omega
          have i5 : decide ((a : Int) < (k : Int) + 1) = true := decide_eq_true (by omega)
          go_region_held3 (fun V => V.cell? ⟨blk, off + (k + 1) * 3, none⟩ = some (.int .i64 r1) ∧ V.cell? ⟨blk, off + (k + 1) * 3 + 1, none⟩ = some (.slice a1 n1 k1) ∧ V.cell? ⟨blk, off + (k + 1) * 3 + 2, none⟩ = some (.int .i64 s1) ∧ V.cell? ⟨blk, off + k * 3, none⟩ = some (.int .i64 r2) ∧ V.cell? ⟨blk, off + k * 3 + 1, none⟩ = some (.slice a2 n2 k2) ∧ V.cell? ⟨blk, off + k * 3 + 2, none⟩ = some (.int .i64 s2)) (go_keep)
            ((go_at_fn g; have hq := Hcall.out; with_reducible refine Calls.mono hq ?_; clear hq; rintro e V ⟨rfl, hbV⟩; obtain ⟨⟨z0, z1, z2⟩, z3, z4, z5⟩ := Hk.out V hbV; have HbV := hide hbV; clear hbV))
          have hAV := hide ((hAj.out.drew).below HbV.out)
          clear z0 z1 z2 z3 z4 z5 x0 x1 x2 y0 y1 y2 HbV Hk Hcall f0 f1 f2 g0 g1' g2' i0 i1 i2 i3 i4 i5
          by_cases hneg : q < 0
          · obtain ⟨_, _, _, _, _, _, _, ⟨f0, f1, f2⟩, _⟩ := hAV.out.at (i := k + 1) (by omega)
            obtain ⟨_, _, _, _, _, _, _, ⟨g0, g1', g2'⟩, _⟩ := hAV.out.at (i := k) (by omega)
            go_wp2_with fail
            have i0 : IntKind.i64.wrap (k : Int) = (k : Int) := IntWalk.i64_in _ (by omega)
            have i1 : (0 : Int) ≤ (k : Int) := by omega
            have i2 : (k : Int) < (sz : Int) := by omega
            have i3 : (0 : Int) ≤ (k : Int) + 1 := by omega
            have i4 : (k : Int) + 1 < (sz : Int) := by omega
            have i7 : ((k : Int) + 1).toNat = k + 1 := by omega
            go_region
            clear i0 i1 i2 i3 i4 i7
            obtain ⟨W2, hW2, hA2⟩ := hAV.out.swapped (i := k + 1) (j := k) (by omega) (by omega) E1.out E2.out
            rw [hW2]
            have HA2 := hide hA2
            clear hW2 hA2 f0 f1 f2 g0 g1' g2'
            go_wp2
            go_roundg k
            case measure => omega
            case rel =>
              refine ⟨k, _, by first | rfl | go_num, by omega, by omega, Nat.le_refl _, HA2.out, ?_⟩
              have := insInner_go (fun x y => decide (cf x y < 0)) a (k + 1) dj hja (by simp only [Nat.add_sub_cancel]; rw [Hqe.out]; exact decide_eq_true hneg)
              simp only [Nat.add_sub_cancel] at this
              exact this.symm.trans HI.out
          · go_wp2
            go_roundg (b - (i + 1))
            case measure => omega
            case rel => exact ⟨i + 1, dj, by go_num, by omega, by omega, by omega, hAV.out, OUT.out (.inr (by simp only [Nat.add_sub_cancel]; rw [Hqe.out]; exact decide_eq_false (by omega)))⟩
        · have hjaz : decide ((a : Int) < (j : Int)) = false := decide_eq_false (by omega)
          have hjaz' : ¬ (a : Int) < (j : Int) := by omega
          have hAV := hide hAj.out.drew
          go_wp2_with fail
          go_region
          all_goals go_wp2
          go_roundg (b - (i + 1))
          case measure => omega
          case rel => exact ⟨i + 1, dj, by go_num, by omega, by omega, by omega, hAV.out, OUT.out (.inl (by omega))⟩
    · go_wp2
      go_end0
      refine ⟨rfl, ?_⟩
      unfold insertionSort
      rw [← HO.out, insOuter_stop _ _ _ _ _ hlt]
      exact hA.out

/-- What a sort leaves. -/
def Sorted (lt : Ac → Ac → Bool) (d d' : Array Ac) (n : Nat) : Prop := PermIn 0 n d d' ∧ SortedIn lt 0 n d'

set_option maxRecDepth 100000 in
set_option maxHeartbeats 2000000 in
theorem stable_any (eg : ∀ args w, (callFunc g args).run Try.prog w = .ok (.enter g args) w) (hS : SWO (fun x y => decide (cf x y < 0))) (hC : CmpIs g cb cf good blk w) (hsz : sz ≤ 1000000) (d : Array Ac) (wr : World) (h : At good w blk off sz d wr) :
    Calls Try.prog 69 #[.slice (some ⟨blk, off, none⟩) sz cap, .int .i64 sz, .func (.func g) #[] cb] wr fun e w' => e = .returned (.tuple #[]) ∧ ∃ d', Sorted (fun x y => decide (cf x y < 0)) d d' sz ∧ At good w blk off sz d' w' := by
  have H := hide h
  have HC := hide hC
  have HS := hide hS
  have hds := hide h.size
  clear h hC hS
  go_enter Try.func69, Try.ntmps69
  go_wp2
  go_loopw [7, 8] (fun va vb wr' => ∃ (k a : Nat) (dk : Array Ac), va = .int .i64 a ∧ vb = .int .i64 ((a : Int) + 20) ∧ a ≤ sz ∧ Hid (a = k * 20 ∧ BlocksTo (fun x y => decide (cf x y < 0)) 20 k dk ∧ PermIn 0 sz d dk) ∧ Hid (At good w blk off sz dk wr')) (fun a _ _ => sz - (intOf a).toNat)
  case atStart => exact ⟨0, 0, d, rfl, rfl, by omega, ⟨rfl, blocksTo_zero _ _, permIn_refl _ _ _⟩, H.out⟩
  case round =>
    obtain ⟨k, a, dk, rfl, rfl, ha, hq, hA⟩ := hrel
    have Eb : Hid ((a : Int) + 20 = ((a + 20 : Nat) : Int)) := hide (by omega)
    by_cases hlt : (a : Int) + 20 ≤ (sz : Int)
    · go_wp2_with fail
      rw [Eb.out]
      refine (insertion_any g cb cf good w blk off cap sz eg HC.out hsz a (a + 20) dk _ hA.out (by omega) (by omega)).mono ?_
      rintro e w1 ⟨rfl, hA1⟩
      have hi := insertionSort_holds (lt := fun x y => decide (cf x y < 0)) HS.out dk a (a + 20) (by omega) (by have := hA.out.size; omega)
      have HA1 := hide hA1
      have HQ : Hid (a + 20 = (k + 1) * 20 ∧ BlocksTo (fun x y => decide (cf x y < 0)) 20 (k + 1) (insertionSort (fun x y => decide (cf x y < 0)) dk a (a + 20)) ∧ PermIn 0 sz d (insertionSort (fun x y => decide (cf x y < 0)) dk a (a + 20))) :=
        ⟨mul_step hq.out.1, blocksTo_step hq.out.2.1 hq.out.1 hi.1 hi.2, permIn_trans _ _ _ _ _ hq.out.2.2 (widen hi.1 (by omega) (by omega) (by have := hA.out.size; omega))⟩
      generalize insertionSort (fun x y => decide (cf x y < 0)) dk a (a + 20) = d1 at HA1 HQ
      clear hA1 hi
      go_wp2
      go_roundw
      case rel => exact ⟨k + 1, a + 20, d1, by go_num, by go_num, by omega, HQ.out, HA1.out⟩
      case measure => simp [intOf]; omega
    · go_wp2_with fail
      refine (insertion_any g cb cf good w blk off cap sz eg HC.out hsz a sz dk _ hA.out ha (Nat.le_refl _)).mono ?_
      rintro e w1 ⟨rfl, hA1⟩
      have hi := insertionSort_holds (lt := fun x y => decide (cf x y < 0)) HS.out dk a sz ha (by have := hA.out.size; omega)
      have HA1 := hide hA1
      have HQ : Hid (Blocks (fun x y => decide (cf x y < 0)) 20 sz (insertionSort (fun x y => decide (cf x y < 0)) dk a sz) ∧ PermIn 0 sz d (insertionSort (fun x y => decide (cf x y < 0)) dk a sz)) :=
        ⟨blocks_of_to hq.out.2.1 hq.out.1 (by omega) ha hi.1 hi.2, permIn_trans _ _ _ _ _ hq.out.2.2 (widen hi.1 (by omega) (by omega) (by have := hA.out.size; omega))⟩
      generalize insertionSort (fun x y => decide (cf x y < 0)) dk a sz = d1 at HA1 HQ
      clear hA1 hi hq hA hlt
      go_wp2_with fail
      go_loopw [6, 7, 8] (fun vc va vb wr' => ∃ (c : Nat) (dk : Array Ac), vc = .int .i64 c ∧ 1 ≤ c ∧ c ≤ 2000000 ∧ Hid (Blocks (fun x y => decide (cf x y < 0)) c sz dk ∧ PermIn 0 sz d dk) ∧ Hid (At good w blk off sz dk wr')) (fun c _ _ _ => sz - (intOf c).toNat)
      case atStart => exact ⟨20, d1, rfl, by omega, by omega, HQ.out, HA1.out⟩
      case round =>
        obtain ⟨c, d2, rfl, hc, hc2, hq2, hA2⟩ := hrel
        by_cases hcn : c < sz
        · go_wp2_with fail
          go_loopw [7, 8] (fun va vb wr' => ∃ (k a : Nat) (dk : Array Ac), va = .int .i64 a ∧ vb = .int .i64 ((a : Int) + 2 * (c : Int)) ∧ a ≤ sz ∧ Hid (a = k * (2 * c) ∧ BlocksMid (fun x y => decide (cf x y < 0)) c sz k dk ∧ PermIn 0 sz d dk) ∧ Hid (At good w blk off sz dk wr')) (fun a _ _ => sz - (intOf a).toNat)
          case atStart => exact ⟨0, 0, d2, by first | rfl | simp, by simp, by omega, ⟨by simp, blocksMid_start hq2.out.1, hq2.out.2⟩, hA2.out⟩
          case round =>
            obtain ⟨k, a, d3, rfl, rfl, ha, hq3, hA3⟩ := hrel
            have Eb : Hid ((a : Int) + 2 * (c : Int) = ((a + 2 * c : Nat) : Int)) := hide (by omega)
            have Ec : Hid ((a : Int) + (c : Int) = ((a + c : Nat) : Int)) := hide (by omega)
            have hds3 := hide hA3.out.size
            have HT := hide (blocksMid_two hq3.out.2.1 hq3.out.1)
            by_cases hlt : (a : Int) + 2 * (c : Int) ≤ (sz : Int)
            · have T1 : Hid (SortedIn (fun x y => decide (cf x y < 0)) a (a + c) d3) := by have := HT.out.1; rwa [Nat.min_eq_left (by omega)] at this
              have T2 : Hid (SortedIn (fun x y => decide (cf x y < 0)) (a + c) (a + 2 * c) d3) := by have := HT.out.2; rw [Nat.min_eq_left (by omega), show a + c + c = a + 2 * c by omega] at this; exact this
              go_wp2_with fail
              rw [Eb.out, Ec.out]
              refine (merge_any g cb cf good w blk off cap sz eg HS.out HC.out hsz _ a (a + c) (a + 2 * c) (Nat.le_refl _) (by omega) (by omega) (by omega) d3 _ hA3.out T1.out T2.out).mono ?_
              rintro e w1 ⟨rfl, d4, hp4, hs4, hA4⟩
              have HA4 := hide hA4
              have HQ4 : Hid (a + 2 * c = (k + 1) * (2 * c) ∧ BlocksMid (fun x y => decide (cf x y < 0)) c sz (k + 1) d4 ∧ PermIn 0 sz d d4) :=
                ⟨mul_step hq3.out.1, blocksMid_step hq3.out.2.1 hq3.out.1 hp4 hs4, permIn_trans _ _ _ _ _ hq3.out.2.2 (widen hp4 (by omega) (by omega) (by have := hds3.out; omega))⟩
              clear hA4 hp4 hs4
              go_wp2
              go_roundw
              case rel => exact ⟨k + 1, a + 2 * c, d4, by go_num, by go_num, by omega, HQ4.out, HA4.out⟩
              case measure => simp [intOf]; omega
            · by_cases hm : (a : Int) + (c : Int) < (sz : Int)
              · have T1 : Hid (SortedIn (fun x y => decide (cf x y < 0)) a (a + c) d3) := by have := HT.out.1; rwa [Nat.min_eq_left (by omega)] at this
                have T2 : Hid (SortedIn (fun x y => decide (cf x y < 0)) (a + c) sz d3) := by have := HT.out.2; rw [Nat.min_eq_right (by omega)] at this; exact this
                go_wp2_with fail
                rw [Ec.out]
                refine (merge_any g cb cf good w blk off cap sz eg HS.out HC.out hsz _ a (a + c) sz (Nat.le_refl _) (by omega) (by omega) (Nat.le_refl _) d3 _ hA3.out T1.out T2.out).mono ?_
                rintro e w1 ⟨rfl, d4, hp4, hs4, hA4⟩
                have HA4 := hide hA4
                have HQ4 : Hid (Blocks (fun x y => decide (cf x y < 0)) (2 * c) sz d4 ∧ PermIn 0 sz d d4) :=
                  ⟨blocks_of_to hq3.out.2.1.1 hq3.out.1 (by omega) ha hp4 hs4, permIn_trans _ _ _ _ _ hq3.out.2.2 (widen hp4 (by omega) (by omega) (by have := hds3.out; omega))⟩
                clear hA4 hp4 hs4
                go_wp2
                go_roundw
                case rel => exact ⟨2 * c, d4, by go_num, by omega, by omega, HQ4.out, HA4.out⟩
                case measure => simp [intOf]; omega
              · have HQ4 : Hid (Blocks (fun x y => decide (cf x y < 0)) (2 * c) sz d3 ∧ PermIn 0 sz d d3) :=
                  ⟨blocks_of_to hq3.out.2.1.1 hq3.out.1 (by omega) ha (permIn_refl _ _ _) (by have := HT.out.1; rw [Nat.min_eq_right (by omega)] at this; exact this), hq3.out.2.2⟩
                go_wp2
                go_roundw
                case rel => exact ⟨2 * c, d3, by go_num, by omega, by omega, HQ4.out, hA3.out⟩
                case measure => simp [intOf]; omega
        · go_wp2
          go_end0
          exact ⟨rfl, d2, ⟨hq2.out.2, blocks_whole hq2.out.1 (by omega)⟩, hA2.out⟩
end
end Go.Proofs.Ytelgajgghgknnaa
