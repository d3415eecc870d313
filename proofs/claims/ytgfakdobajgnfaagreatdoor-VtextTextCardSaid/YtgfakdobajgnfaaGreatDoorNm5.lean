/- num (the document's): Of. -/
import Derived.Test.YtgfakdobajgnfaaGreatDoorNm4
namespace Go.Proofs.YtgfakdobajgnfaaGreatDoor
open Go Go.RowKit Go.Lib

/-- An int64's digits: those so far, what is left. -/
structure OfAt (w wr : World) (n : Int) (i : Nat) (m : Int) (v : Value) (o : List Nat) : Prop where
  row : wr.ownsRow (w.heap.size + 1) 3 1 v i (dnums o)
  len : o.length = i
  ok : okD o
  val : dg n.natAbs = o ++ dg m.natAbs
  on : Below (w.heap.size + 1) (w.alloc (.cells #[.bool false, .slice none 0 0] 79)) wr
theorem OfAt.bel {w wr : World} {n : Int} {i : Nat} {m : Int} {v : Value} {o : List Nat} (h : OfAt w wr n i m v o) : Below w.heap.size w wr :=
  ((Below.refl _ w).alloc (Nat.le_refl _) _).trans (h.on.mono (by omega))
theorem OfAt.box {w wr : World} {n : Int} {i : Nat} {m : Int} {v : Value} {o : List Nat} (h : OfAt w wr n i m v o) : wr.heap[w.heap.size]? = some (.cells #[.bool false, .slice none 0 0] 79 (0, 0)) :=
  (h.on.block _ (by omega)).trans (heap_alloc0 w _)
theorem dg_len20 {n : Nat} (h : n ≤ 9223372036854775808) : (dg n).length ≤ 5 := by
  have : n < 10000 ^ 5 := by omega
  exact lenD_le this
set_option maxRecDepth 100000 in
set_option maxHeartbeats 8000000 in
theorem of_num {w : World} (n : Int) (h0 : -9223372036854775808 ≤ n) (h1 : n ≤ 9223372036854775807) : Calls Tryz.prog 47 #[.int .i64 n] w (NmPost w n) := by
  have hlen := dg_len20 (n := n.natAbs) (by omega)
  have HS : Hid (OfAt w (w.alloc (.cells #[.bool false, .slice none 0 0] 79)) n 0 n (.slice none 0 0) []) := hide ⟨World.ownsRow_nil _ _ _ _, rfl, fun _ h => by (cases h), rfl, Below.refl _ _⟩
  have HN := hide (And.intro h0 h1)
  have HLN := hide hlen
  obtain ⟨ng, hng⟩ : ∃ b, decide (n < 0) = b := ⟨_, rfl⟩
  have Hng := hide hng
  clear h0 h1 hlen
  go_enter Tryz.func47, Tryz.ntmps47
  go_wp2_with fail
  clear hng
  go_loopw [0, 4] (fun v0 v4 wr => ∃ (i : Nat) (m : Int) (o : List Nat) (oa : Option Addr) (oc : Nat), i ≤ 5 ∧ v0 = .int .i64 m ∧ v4 = .slice oa i oc ∧ Hid (OfAt w wr n i m (.slice oa i oc) o ∧ m.natAbs ≤ n.natAbs ∧ -9223372036854775808 ≤ m ∧ m ≤ 9223372036854775807)) (fun v0 _ _ => (intOf v0).natAbs)
  case atStart => exact ⟨0, n, [], none, 0, by omega, rfl, rfl, hide ⟨HS.out, Nat.le_refl _, HN.out.1, HN.out.2⟩⟩
  case round =>
    obtain ⟨i, m, o, oa, oc, hi, rfl, rfl, hq⟩ := hrel
    obtain ⟨hU, hm1, hm2, hm3⟩ := hq.out
    by_cases hm0 : m = 0
    · subst hm0
      have hv : o = dg n.natAbs := by rw [hU.val]; simp [dg_zero]
      have hd : DgRd wr (.slice oa i oc) (dg n.natAbs) := by
        have := HLN.out
        rw [← hv] at this ⊢
        exact DgRd.of_row (by omega) hU.len.symm hU.row
      have hN : NumIs wr (.agg #[.bool ng, .slice oa i oc]) n := ⟨_, by rw [Hng.out], hd⟩
      obtain ⟨x0, x1, xf⟩ := two_cells' hU.box
      have xf0 := xf 0
      have xf1 := xf 1
      have HV := hide (hN.store hU.box (.bool ng) (.slice oa i oc))
      have HB := hide ((hU.bel.setCell (p := ⟨w.heap.size, 0, none⟩) (Nat.le_refl _) (.bool ng)).setCell (p := ⟨w.heap.size, 1, none⟩) (Nat.le_refl _) (.slice oa i oc))
      clear hq hU hv hd hN xf HS hm1 hm2 hm3
      go_wp2_with fail
      refine bodyPost_ret (v := .agg #[.bool ng, .slice oa i oc]) (by simp [results, Tryz.results47, go_sem, *]) rfl ⟨⟨_, rfl, HV.out⟩, HB.out⟩
    · have p1 : (m != 0) = true := by simpa using hm0
      have hi5 : i + 1 ≤ 5 := by
        have h2 := HLN.out
        rw [hU.val, List.length_append, hU.len, dg_pos (by omega)] at h2
        simp only [List.length_cons] at h2
        omega
      rcases Int.lt_or_le m 0 with hneg | hneg
      · obtain ⟨k, rfl⟩ : ∃ k : Nat, m = -(k : Int) := ⟨m.natAbs, by omega⟩
        rcases Nat.eq_zero_or_pos (k % 10000) with hxx | hxx
        · have hk0 : k ≠ 0 := by omega
          have hdg := dg_pos hk0
          obtain ⟨x, hx⟩ : ∃ x, k % 10000 = x := ⟨_, rfl⟩
          obtain ⟨y, hy⟩ : ∃ y, k / 10000 = y := ⟨_, rfl⟩
          have hxl : x < 10000 := by omega
          have hyk : y < k := by omega
          rw [hx, hy] at hdg
          have hz : (-(k : Int)).tmod 10000 = -(x : Int) := by rw [Int.neg_tmod, Int.tmod_eq_emod_of_nonneg (by omega)]; omega
          have hd : (-(k : Int)).tdiv 10000 = -(y : Int) := by rw [Int.neg_tdiv, Int.tdiv_eq_ediv_of_nonneg (by omega)]; omega
          have hx0 : x = 0 := by omega
          subst hx0
          have p2 : decide (-((0 : Nat) : Int) < 0) = false := by decide
          have p3 : decide ((0 : Int) < 0) = false := by decide
          skip
          skip
          have Hrow1 := hide (hU.row.alloc (.cells #[.int .i64 0] 3))
          have HN1 := hide (heap_alloc0 wr (.cells #[.int .i64 0] 3))
          have HZ : Hid ((wr.alloc (.cells #[.int .i64 0] 3)).heap.size = wr.heap.size + 1) := hide (by simp)
          have hsr := hU.bel.size
          have Hown := hide (row_own hU.row)
          have hB0 := hU.box
          have hV := hU.val
          have ho1 : okD (o ++ [0]) := ok_snoc hU.ok (by omega)
          have hV2 : dg n.natAbs = (o ++ [0]) ++ dg (-(y : Int)).natAbs := by rw [hV, show (-(k : Int)).natAbs = k by omega, hdg, show (-(y : Int)).natAbs = y by omega]; simp
          have HV2 := hide hV2
          have Ho1 := hide ho1
          have HU := hide hU
          have hle : (-(y : Int)).natAbs ≤ n.natAbs := by omega
          have HLE := hide hle
          obtain ⟨i0, hi0, hz0, hz1, hz2⟩ := dinfo_parts
          have Hi0 := hide hi0
          have Hy0 := hide hz0
          have Hy1 := hide hz1
          have Hy2 := hide hz2
          have HYK := hide hyk
          clear hq hU hi0 hz0 hz1 hz2 hdg hx hy hV hV2 ho1 hle HS hB0 HYK
          go_wp2_with ((refine wpList_append_lies _ rfl (.tmp 16) (.tmp 18) _ rfl (w.heap.size + 1) 3 i0 (.int .i64 0) 1 8 Tryz.underlying41 Hi0.out Hy0.out Hy1.out Hy2.out rfl (by decide) (.slice oa i oc) i (dnums o) rfl Hrow1.out ⟨wr.heap.size, 0, none⟩ 1 1 [.int .i64 0] rfl rfl (World.news_of_block (cs := #[.int .i64 0]) HN1.out) (by simp [Value.oneCell']) (by decide) (by unfold maxLen; omega) (by omega) (by rw [HZ.out]; omega) (wr.heap.size + 1) HZ.out ?_; intro g6 cap w6 hown6 hgrow6 hat6 hlt6))
          have hB6 := below_grown' (v := .slice oa i oc) (HU.out.on.alloc (by have := HU.out.on.size; simpa using this) (.cells #[.int .i64 0] 3)) hgrow6 Hown.out (by rw [HZ.out]; have := HU.out.on.size; simp at this; omega)
          rw [show (0 : Int) = ((0 : Nat) : Int) from rfl, ← dnums_snoc] at hown6
          have HR6 : Hid (OfAt w w6 n (i + 1) (-(y : Int)) (.slice (some ⟨g6, 0, none⟩) (i + 1) cap) (o ++ [0])) := hide ⟨hown6, by rw [List.length_append, HU.out.len]; rfl, Ho1.out, HV2.out, hB6⟩
          clear hown6 hgrow6 hat6 hlt6 hB6 Hrow1 HN1 HZ hsr Hown HU
          go_wp2_with fail
          go_roundw
          case rel => exact ⟨i + 1, -(y : Int), o ++ [0], some ⟨g6, 0, none⟩, cap, hi5, rfl, by go_num, hide ⟨HR6.out, HLE.out, by omega, by omega⟩⟩
          case measure => simp [intOf]; omega
        · have hk0 : k ≠ 0 := by omega
          have hdg := dg_pos hk0
          obtain ⟨x, hx⟩ : ∃ x, k % 10000 = x := ⟨_, rfl⟩
          obtain ⟨y, hy⟩ : ∃ y, k / 10000 = y := ⟨_, rfl⟩
          have hxl : x < 10000 := by omega
          have hyk : y < k := by omega
          rw [hx, hy] at hdg
          have hz : (-(k : Int)).tmod 10000 = -(x : Int) := by rw [Int.neg_tmod, Int.tmod_eq_emod_of_nonneg (by omega)]; omega
          have hd : (-(k : Int)).tdiv 10000 = -(y : Int) := by rw [Int.neg_tdiv, Int.tdiv_eq_ediv_of_nonneg (by omega)]; omega
          have hx0 : 0 < x := by omega
          have p2 : decide (-(x : Int) < 0) = true := decide_eq_true (by omega)
          have q0 : -(9223372036854775807 : Int) ≤ (x : Int) := by omega
          have hr1 : (-9223372036854775808 : Int) ≤ (x : Int) := by omega
          have hr2 : (x : Int) ≤ 9223372036854775807 := by omega
          have Hrow1 := hide (hU.row.alloc (.cells #[.int .i64 (x : Int)] 3))
          have HN1 := hide (heap_alloc0 wr (.cells #[.int .i64 (x : Int)] 3))
          have HZ : Hid ((wr.alloc (.cells #[.int .i64 (x : Int)] 3)).heap.size = wr.heap.size + 1) := hide (by simp)
          have hsr := hU.bel.size
          have Hown := hide (row_own hU.row)
          have hB0 := hU.box
          have hV := hU.val
          have ho1 : okD (o ++ [x]) := ok_snoc hU.ok (by omega)
          have hV2 : dg n.natAbs = (o ++ [x]) ++ dg (-(y : Int)).natAbs := by rw [hV, show (-(k : Int)).natAbs = k by omega, hdg, show (-(y : Int)).natAbs = y by omega]; simp
          have HV2 := hide hV2
          have Ho1 := hide ho1
          have HU := hide hU
          have hle : (-(y : Int)).natAbs ≤ n.natAbs := by omega
          have HLE := hide hle
          obtain ⟨i0, hi0, hz0, hz1, hz2⟩ := dinfo_parts
          have Hi0 := hide hi0
          have Hy0 := hide hz0
          have Hy1 := hide hz1
          have Hy2 := hide hz2
          have HYK := hide hyk
          clear hq hU hi0 hz0 hz1 hz2 hdg hx hy hV hV2 ho1 hle HS hB0 HYK
          go_wp2_with ((refine wpList_append_lies _ rfl (.tmp 16) (.tmp 18) _ rfl (w.heap.size + 1) 3 i0 (.int .i64 0) 1 8 Tryz.underlying41 Hi0.out Hy0.out Hy1.out Hy2.out rfl (by decide) (.slice oa i oc) i (dnums o) rfl Hrow1.out ⟨wr.heap.size, 0, none⟩ 1 1 [.int .i64 (x : Int)] rfl rfl (World.news_of_block (cs := #[.int .i64 (x : Int)]) HN1.out) (by simp [Value.oneCell']) (by decide) (by unfold maxLen; omega) (by omega) (by rw [HZ.out]; omega) (wr.heap.size + 1) HZ.out ?_; intro g6 cap w6 hown6 hgrow6 hat6 hlt6))
          have hB6 := below_grown' (v := .slice oa i oc) (HU.out.on.alloc (by have := HU.out.on.size; simpa using this) (.cells #[.int .i64 (x : Int)] 3)) hgrow6 Hown.out (by rw [HZ.out]; have := HU.out.on.size; simp at this; omega)
          rw [← dnums_snoc] at hown6
          have HR6 : Hid (OfAt w w6 n (i + 1) (-(y : Int)) (.slice (some ⟨g6, 0, none⟩) (i + 1) cap) (o ++ [x])) := hide ⟨hown6, by rw [List.length_append, HU.out.len]; rfl, Ho1.out, HV2.out, hB6⟩
          clear hown6 hgrow6 hat6 hlt6 hB6 Hrow1 HN1 HZ hsr Hown HU
          go_wp2_with fail
          go_roundw
          case rel => exact ⟨i + 1, -(y : Int), o ++ [x], some ⟨g6, 0, none⟩, cap, hi5, rfl, by go_num, hide ⟨HR6.out, HLE.out, by omega, by omega⟩⟩
          case measure => simp [intOf]; omega
      · obtain ⟨k, rfl⟩ : ∃ k : Nat, m = (k : Int) := ⟨m.toNat, by omega⟩
        have hk0 : k ≠ 0 := by omega
        have hdg := dg_pos hk0
        obtain ⟨x, hx⟩ : ∃ x, k % 10000 = x := ⟨_, rfl⟩
        obtain ⟨y, hy⟩ : ∃ y, k / 10000 = y := ⟨_, rfl⟩
        have hxl : x < 10000 := by omega
        have hyk : y < k := by omega
        rw [hx, hy] at hdg
        have hz : (k : Int) % 10000 = (x : Int) := by omega
        have hd : (k : Int) / 10000 = (y : Int) := by omega
        have p2 : decide ((x : Int) < 0) = false := by simp
        have hr1 : (-9223372036854775808 : Int) ≤ (x : Int) := by omega
        have hr2 : (x : Int) ≤ 9223372036854775807 := by omega
        have Hrow1 := hide (hU.row.alloc (.cells #[.int .i64 (x : Int)] 3))
        have HN1 := hide (heap_alloc0 wr (.cells #[.int .i64 (x : Int)] 3))
        have HZ : Hid ((wr.alloc (.cells #[.int .i64 (x : Int)] 3)).heap.size = wr.heap.size + 1) := hide (by simp)
        have hsr := hU.bel.size
        have Hown := hide (row_own hU.row)
        have hB0 := hU.box
        have hV := hU.val
        have ho1 : okD (o ++ [x]) := ok_snoc hU.ok (by omega)
        have hV2 : dg n.natAbs = (o ++ [x]) ++ dg ((y : Int)).natAbs := by rw [hV, show ((k : Int)).natAbs = k by omega, hdg, show ((y : Int)).natAbs = y by omega]; simp
        have HV2 := hide hV2
        have Ho1 := hide ho1
        have HU := hide hU
        have hle : ((y : Int)).natAbs ≤ n.natAbs := by omega
        have HLE := hide hle
        obtain ⟨i0, hi0, hz0, hz1, hz2⟩ := dinfo_parts
        have Hi0 := hide hi0
        have Hy0 := hide hz0
        have Hy1 := hide hz1
        have Hy2 := hide hz2
        have HYK := hide hyk
        clear hq hU hi0 hz0 hz1 hz2 hdg hx hy hV hV2 ho1 hle HS hB0 HYK
        go_wp2_with ((refine wpList_append_lies _ rfl (.tmp 16) (.tmp 18) _ rfl (w.heap.size + 1) 3 i0 (.int .i64 0) 1 8 Tryz.underlying41 Hi0.out Hy0.out Hy1.out Hy2.out rfl (by decide) (.slice oa i oc) i (dnums o) rfl Hrow1.out ⟨wr.heap.size, 0, none⟩ 1 1 [.int .i64 (x : Int)] rfl rfl (World.news_of_block (cs := #[.int .i64 (x : Int)]) HN1.out) (by simp [Value.oneCell']) (by decide) (by unfold maxLen; omega) (by omega) (by rw [HZ.out]; omega) (wr.heap.size + 1) HZ.out ?_; intro g6 cap w6 hown6 hgrow6 hat6 hlt6))
        have hB6 := below_grown' (v := .slice oa i oc) (HU.out.on.alloc (by have := HU.out.on.size; simpa using this) (.cells #[.int .i64 (x : Int)] 3)) hgrow6 Hown.out (by rw [HZ.out]; have := HU.out.on.size; simp at this; omega)
        rw [← dnums_snoc] at hown6
        have HR6 : Hid (OfAt w w6 n (i + 1) ((y : Int)) (.slice (some ⟨g6, 0, none⟩) (i + 1) cap) (o ++ [x])) := hide ⟨hown6, by rw [List.length_append, HU.out.len]; rfl, Ho1.out, HV2.out, hB6⟩
        clear hown6 hgrow6 hat6 hlt6 hB6 Hrow1 HN1 HZ hsr Hown HU
        go_wp2_with fail
        go_roundw
        case rel => exact ⟨i + 1, (y : Int), o ++ [x], some ⟨g6, 0, none⟩, cap, hi5, rfl, by go_num, hide ⟨HR6.out, HLE.out, by omega, by omega⟩⟩
        case measure => simp [intOf]; omega
end Go.Proofs.YtgfakdobajgnfaaGreatDoor
