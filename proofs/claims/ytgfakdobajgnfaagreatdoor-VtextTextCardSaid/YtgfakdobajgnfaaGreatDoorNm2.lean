/- num (the document's): up. -/
import Derived.Test.YtgfakdobajgnfaaGreatDoorNm1
namespace Go.Proofs.YtgfakdobajgnfaaGreatDoor
open Go Go.RowKit Go.Lib

/-- Adding up: the digits so far, what is left. -/
structure UpAt (w wr : World) (la lb : List Nat) (i more : Nat) (v : Value) (o : List Nat) : Prop where
  row : wr.ownsRow w.heap.size 3 1 v i (dnums o)
  len : o.length = i
  ok : okD o
  val : nv o + 10000 ^ i * (more + nv (la.drop i) + nv (lb.drop i)) = nv la + nv lb
  bel : Below w.heap.size w wr
theorem up_step {O p t s A B : Nat} (h : t + 10000 * A + 10000 * B = s) : O + p * (t % 10000) + p * 10000 * (t / 10000 + A + B) = O + p * s := by
  rw [← h, Nat.add_assoc, Nat.mul_assoc, ← Nat.mul_add]
  congr 2
  omega
set_option maxRecDepth 100000 in
set_option maxHeartbeats 8000000 in
theorem up_any {w : World} {sa sb : Value} {la lb : List Nat} (ha : DgRd w sa la) (hb : DgRd w sb lb) (hoa : okD la) (hob : okD lb) (hla : la.length ≤ 100000) (hlb : lb.length ≤ 100000) :
    Calls Tryz.prog 190 #[sa, sb] w fun e w' => (∃ v o, e = .returned v ∧ DgRd w' v o ∧ okD o ∧ nv o = nv la + nv lb ∧ o.length ≤ max la.length lb.length + 1) ∧ Below w.heap.size w w' := by
  obtain ⟨aa, ca, rfl, _⟩ := ha.slice
  obtain ⟨ab, cb, rfl, _⟩ := hb.slice
  have HA := hide ha
  have HBb := hide hb
  have HOA := hide hoa
  have HOB := hide hob
  have HU0 : Hid (UpAt w w la lb 0 0 (.slice none 0 0) []) := hide ⟨World.ownsRow_nil _ _ _ _, rfl, fun _ h => by (cases h), by simp [nv], Below.refl _ _⟩
  clear ha hb hoa hob
  go_enter Tryz.func190, Tryz.ntmps190
  go_wp2_with fail
  go_loopw [5, 6, 7] (fun v5 v6 v7 wr => ∃ (i more : Nat) (o : List Nat) (oa : Option Addr) (oc : Nat), more ≤ 1 ∧ (i ≤ max la.length lb.length ∨ i = max la.length lb.length + 1 ∧ more = 0) ∧ v7 = .int .i64 i ∧ v5 = .slice oa i oc ∧ v6 = .int .i64 more ∧ Hid (UpAt w wr la lb i more (.slice oa i oc) o)) (fun _ _ v7 _ => max la.length lb.length + 2 - (intOf v7).toNat)
  case atStart => exact ⟨0, 0, [], none, 0, by omega, .inl (by omega), rfl, rfl, rfl, HU0⟩
  case round =>
    obtain ⟨i, more, o, oa, oc, hm, hi, rfl, rfl, rfl, hq⟩ := hrel
    have hU := hq.out
    by_cases hia : i < la.length
    · by_cases hib : i < lb.length
      · skip
        obtain ⟨ba, fa, rfl, ha⟩ := HA.out.at hia
        have ha := bcell hU.bel ha
        have hxl := HOA.out _ (List.getElem_mem hia)
        have hda := nv_drop_cons hia
        obtain ⟨x, hx⟩ : ∃ x, la[i] = x := ⟨_, rfl⟩
        rw [hx] at ha hda hxl
        have p1 : decide ((i : Int) < (la.length : Int)) = true := decide_eq_true (by omega)
        have p1' : (i : Int) < (la.length : Int) := by omega
        have q1 : (0 : Int) ≤ (x : Int) := by omega
        have q2 : (x : Int) ≤ 9999 := by omega
        obtain ⟨bb, fb, rfl, hb⟩ := HBb.out.at hib
        have hb := bcell hU.bel hb
        have hyl := HOB.out _ (List.getElem_mem hib)
        have hdb := nv_drop_cons hib
        obtain ⟨y, hy⟩ : ∃ y, lb[i] = y := ⟨_, rfl⟩
        rw [hy] at hb hdb hyl
        have p2 : decide ((i : Int) < (lb.length : Int)) = true := decide_eq_true (by omega)
        have p2' : (i : Int) < (lb.length : Int) := by omega
        have q3 : (0 : Int) ≤ (y : Int) := by omega
        have q4 : (y : Int) ≤ 9999 := by omega
        have q0 : (0 : Int) ≤ (i : Int) := by omega
        have q5 : (0 : Int) ≤ (more : Int) := by omega
        have q6 : (more : Int) ≤ 1 := by omega
        have hz : (((more : Int) + (x : Int) + (y : Int)) % 10000 : Int) = (((more + x + y) % 10000 : Nat) : Int) := by omega
        have hd : (((more : Int) + (x : Int) + (y : Int)) / 10000 : Int) = (((more + x + y) / 10000 : Nat) : Int) := by omega
        have hm1 : (more + x + y) / 10000 ≤ 1 := by omega
        have hbd : i + 1 ≤ max la.length lb.length ∨ i + 1 = max la.length lb.length + 1 ∧ (more + x + y) / 10000 = 0 := by omega
        have HVL := hide (up_step (O := nv o) (p := 10000 ^ i) (show (more + x + y) + 10000 * nv (la.drop (i + 1)) + 10000 * nv (lb.drop (i + 1)) = more + nv (la.drop i) + nv (lb.drop i) by omega))
        have Hrow1 := hide (hU.row.alloc (.cells #[.int .i64 (((more : Int) + (x : Int) + (y : Int)) % 10000)] 3))
        have HN1 := hide (heap_alloc0 wr (.cells #[.int .i64 (((more : Int) + (x : Int) + (y : Int)) % 10000)] 3))
        have HZ : Hid ((wr.alloc (.cells #[.int .i64 (((more : Int) + (x : Int) + (y : Int)) % 10000)] 3)).heap.size = wr.heap.size + 1) := hide (by simp)
        have hsr := hU.bel.size
        have Hown := hide (row_own hU.row)
        have HU := hide hU
        have Hzz := hide hz
        have Hdd := hide hd
        obtain ⟨i0, hi0, hz0, hz1, hz2⟩ := dinfo_parts
        have Hi0 := hide hi0
        have Hy0 := hide hz0
        have Hy1 := hide hz1
        have Hy2 := hide hz2
        have Hbd := hide hbd
        clear hq hU hz hd hi0 hz0 hz1 hz2 hda hdb hbd hx hy
        go_wp2_with ((refine wpList_append_lies _ rfl (.tmp 44) (.tmp 47) _ rfl w.heap.size 3 i0 (.int .i64 0) 1 8 Tryz.underlying41 Hi0.out Hy0.out Hy1.out Hy2.out rfl (by decide) (.slice oa i oc) i (dnums o) rfl Hrow1.out ⟨wr.heap.size, 0, none⟩ 1 1 [.int .i64 (((more : Int) + (x : Int) + (y : Int)) % 10000)] rfl rfl (World.news_of_block (cs := #[.int .i64 (((more : Int) + (x : Int) + (y : Int)) % 10000)]) HN1.out) (by simp [Value.oneCell']) (by decide) (by unfold maxLen; omega) (by omega) (by rw [HZ.out]; omega) (wr.heap.size + 1) HZ.out ?_; intro g6 cap w6 hown6 hgrow6 hat6 hlt6))
        have hB6 := below_grown' (v := .slice oa i oc) (HU.out.bel.alloc HU.out.bel.size (.cells #[.int .i64 (((more : Int) + (x : Int) + (y : Int)) % 10000)] 3)) hgrow6 Hown.out (by rw [HZ.out]; omega)
        rw [Hzz.out, ← dnums_snoc] at hown6
        have HR6 : Hid (UpAt w w6 la lb (i + 1) ((more + x + y) / 10000) (.slice (some ⟨g6, 0, none⟩) (i + 1) cap) (o ++ [(more + x + y) % 10000])) := hide ⟨hown6, by rw [List.length_append, HU.out.len]; rfl, ok_snoc HU.out.ok (Nat.mod_lt _ (by decide)), by
          rw [nv_snoc, HU.out.len, Nat.pow_succ, HVL.out]
          exact HU.out.val, hB6⟩
        clear hown6 hgrow6 hat6 hlt6 hB6 Hrow1 HN1 HZ hsr Hown HU HVL
        go_wp2_with fail
        go_roundw
        case rel => exact ⟨i + 1, (more + x + y) / 10000, o ++ [(more + x + y) % 10000], some ⟨g6, 0, none⟩, cap, hm1, Hbd.out, by go_num, rfl, by rw [Hdd.out], HR6⟩
        case measure => simp [intOf]; omega
      · skip
        obtain ⟨ba, fa, rfl, ha⟩ := HA.out.at hia
        have ha := bcell hU.bel ha
        have hxl := HOA.out _ (List.getElem_mem hia)
        have hda := nv_drop_cons hia
        obtain ⟨x, hx⟩ : ∃ x, la[i] = x := ⟨_, rfl⟩
        rw [hx] at ha hda hxl
        have p1 : decide ((i : Int) < (la.length : Int)) = true := decide_eq_true (by omega)
        have p1' : (i : Int) < (la.length : Int) := by omega
        have q1 : (0 : Int) ≤ (x : Int) := by omega
        have q2 : (x : Int) ≤ 9999 := by omega
        have hdb : nv (lb.drop i) = 0 := by rw [List.drop_eq_nil_of_le (by omega)]; rfl
        have hdb' : nv (lb.drop (i + 1)) = 0 := by rw [List.drop_eq_nil_of_le (by omega)]; rfl
        have p2 : decide ((i : Int) < (lb.length : Int)) = false := decide_eq_false (by omega)
        have q0 : (0 : Int) ≤ (i : Int) := by omega
        have q5 : (0 : Int) ≤ (more : Int) := by omega
        have q6 : (more : Int) ≤ 1 := by omega
        have hz : (((more : Int) + (x : Int)) % 10000 : Int) = (((more + x) % 10000 : Nat) : Int) := by omega
        have hd : (((more : Int) + (x : Int)) / 10000 : Int) = (((more + x) / 10000 : Nat) : Int) := by omega
        have hm1 : (more + x) / 10000 ≤ 1 := by omega
        have hbd : i + 1 ≤ max la.length lb.length ∨ i + 1 = max la.length lb.length + 1 ∧ (more + x) / 10000 = 0 := by omega
        have HVL := hide (up_step (O := nv o) (p := 10000 ^ i) (show (more + x) + 10000 * nv (la.drop (i + 1)) + 10000 * nv (lb.drop (i + 1)) = more + nv (la.drop i) + nv (lb.drop i) by omega))
        have Hrow1 := hide (hU.row.alloc (.cells #[.int .i64 (((more : Int) + (x : Int)) % 10000)] 3))
        have HN1 := hide (heap_alloc0 wr (.cells #[.int .i64 (((more : Int) + (x : Int)) % 10000)] 3))
        have HZ : Hid ((wr.alloc (.cells #[.int .i64 (((more : Int) + (x : Int)) % 10000)] 3)).heap.size = wr.heap.size + 1) := hide (by simp)
        have hsr := hU.bel.size
        have Hown := hide (row_own hU.row)
        have HU := hide hU
        have Hzz := hide hz
        have Hdd := hide hd
        obtain ⟨i0, hi0, hz0, hz1, hz2⟩ := dinfo_parts
        have Hi0 := hide hi0
        have Hy0 := hide hz0
        have Hy1 := hide hz1
        have Hy2 := hide hz2
        have Hbd := hide hbd
        clear hq hU hz hd hi0 hz0 hz1 hz2 hda hdb hbd hx hdb'
        go_wp2_with ((refine wpList_append_lies _ rfl (.tmp 44) (.tmp 47) _ rfl w.heap.size 3 i0 (.int .i64 0) 1 8 Tryz.underlying41 Hi0.out Hy0.out Hy1.out Hy2.out rfl (by decide) (.slice oa i oc) i (dnums o) rfl Hrow1.out ⟨wr.heap.size, 0, none⟩ 1 1 [.int .i64 (((more : Int) + (x : Int)) % 10000)] rfl rfl (World.news_of_block (cs := #[.int .i64 (((more : Int) + (x : Int)) % 10000)]) HN1.out) (by simp [Value.oneCell']) (by decide) (by unfold maxLen; omega) (by omega) (by rw [HZ.out]; omega) (wr.heap.size + 1) HZ.out ?_; intro g6 cap w6 hown6 hgrow6 hat6 hlt6))
        have hB6 := below_grown' (v := .slice oa i oc) (HU.out.bel.alloc HU.out.bel.size (.cells #[.int .i64 (((more : Int) + (x : Int)) % 10000)] 3)) hgrow6 Hown.out (by rw [HZ.out]; omega)
        rw [Hzz.out, ← dnums_snoc] at hown6
        have HR6 : Hid (UpAt w w6 la lb (i + 1) ((more + x) / 10000) (.slice (some ⟨g6, 0, none⟩) (i + 1) cap) (o ++ [(more + x) % 10000])) := hide ⟨hown6, by rw [List.length_append, HU.out.len]; rfl, ok_snoc HU.out.ok (Nat.mod_lt _ (by decide)), by
          rw [nv_snoc, HU.out.len, Nat.pow_succ, HVL.out]
          exact HU.out.val, hB6⟩
        clear hown6 hgrow6 hat6 hlt6 hB6 Hrow1 HN1 HZ hsr Hown HU HVL
        go_wp2_with fail
        go_roundw
        case rel => exact ⟨i + 1, (more + x) / 10000, o ++ [(more + x) % 10000], some ⟨g6, 0, none⟩, cap, hm1, Hbd.out, by go_num, rfl, by rw [Hdd.out], HR6⟩
        case measure => simp [intOf]; omega
    · by_cases hib : i < lb.length
      · skip
        have hda : nv (la.drop i) = 0 := by rw [List.drop_eq_nil_of_le (by omega)]; rfl
        have hda' : nv (la.drop (i + 1)) = 0 := by rw [List.drop_eq_nil_of_le (by omega)]; rfl
        have p1 : decide ((i : Int) < (la.length : Int)) = false := decide_eq_false (by omega)
        obtain ⟨bb, fb, rfl, hb⟩ := HBb.out.at hib
        have hb := bcell hU.bel hb
        have hyl := HOB.out _ (List.getElem_mem hib)
        have hdb := nv_drop_cons hib
        obtain ⟨y, hy⟩ : ∃ y, lb[i] = y := ⟨_, rfl⟩
        rw [hy] at hb hdb hyl
        have p2 : decide ((i : Int) < (lb.length : Int)) = true := decide_eq_true (by omega)
        have p2' : (i : Int) < (lb.length : Int) := by omega
        have q3 : (0 : Int) ≤ (y : Int) := by omega
        have q4 : (y : Int) ≤ 9999 := by omega
        have q0 : (0 : Int) ≤ (i : Int) := by omega
        have q5 : (0 : Int) ≤ (more : Int) := by omega
        have q6 : (more : Int) ≤ 1 := by omega
        have hz : (((more : Int) + (y : Int)) % 10000 : Int) = (((more + y) % 10000 : Nat) : Int) := by omega
        have hd : (((more : Int) + (y : Int)) / 10000 : Int) = (((more + y) / 10000 : Nat) : Int) := by omega
        have hm1 : (more + y) / 10000 ≤ 1 := by omega
        have hbd : i + 1 ≤ max la.length lb.length ∨ i + 1 = max la.length lb.length + 1 ∧ (more + y) / 10000 = 0 := by omega
        have HVL := hide (up_step (O := nv o) (p := 10000 ^ i) (show (more + y) + 10000 * nv (la.drop (i + 1)) + 10000 * nv (lb.drop (i + 1)) = more + nv (la.drop i) + nv (lb.drop i) by omega))
        have Hrow1 := hide (hU.row.alloc (.cells #[.int .i64 (((more : Int) + (y : Int)) % 10000)] 3))
        have HN1 := hide (heap_alloc0 wr (.cells #[.int .i64 (((more : Int) + (y : Int)) % 10000)] 3))
        have HZ : Hid ((wr.alloc (.cells #[.int .i64 (((more : Int) + (y : Int)) % 10000)] 3)).heap.size = wr.heap.size + 1) := hide (by simp)
        have hsr := hU.bel.size
        have Hown := hide (row_own hU.row)
        have HU := hide hU
        have Hzz := hide hz
        have Hdd := hide hd
        obtain ⟨i0, hi0, hz0, hz1, hz2⟩ := dinfo_parts
        have Hi0 := hide hi0
        have Hy0 := hide hz0
        have Hy1 := hide hz1
        have Hy2 := hide hz2
        have Hbd := hide hbd
        clear hq hU hz hd hi0 hz0 hz1 hz2 hda hdb hbd hda' hy
        go_wp2_with ((refine wpList_append_lies _ rfl (.tmp 44) (.tmp 47) _ rfl w.heap.size 3 i0 (.int .i64 0) 1 8 Tryz.underlying41 Hi0.out Hy0.out Hy1.out Hy2.out rfl (by decide) (.slice oa i oc) i (dnums o) rfl Hrow1.out ⟨wr.heap.size, 0, none⟩ 1 1 [.int .i64 (((more : Int) + (y : Int)) % 10000)] rfl rfl (World.news_of_block (cs := #[.int .i64 (((more : Int) + (y : Int)) % 10000)]) HN1.out) (by simp [Value.oneCell']) (by decide) (by unfold maxLen; omega) (by omega) (by rw [HZ.out]; omega) (wr.heap.size + 1) HZ.out ?_; intro g6 cap w6 hown6 hgrow6 hat6 hlt6))
        have hB6 := below_grown' (v := .slice oa i oc) (HU.out.bel.alloc HU.out.bel.size (.cells #[.int .i64 (((more : Int) + (y : Int)) % 10000)] 3)) hgrow6 Hown.out (by rw [HZ.out]; omega)
        rw [Hzz.out, ← dnums_snoc] at hown6
        have HR6 : Hid (UpAt w w6 la lb (i + 1) ((more + y) / 10000) (.slice (some ⟨g6, 0, none⟩) (i + 1) cap) (o ++ [(more + y) % 10000])) := hide ⟨hown6, by rw [List.length_append, HU.out.len]; rfl, ok_snoc HU.out.ok (Nat.mod_lt _ (by decide)), by
          rw [nv_snoc, HU.out.len, Nat.pow_succ, HVL.out]
          exact HU.out.val, hB6⟩
        clear hown6 hgrow6 hat6 hlt6 hB6 Hrow1 HN1 HZ hsr Hown HU HVL
        go_wp2_with fail
        go_roundw
        case rel => exact ⟨i + 1, (more + y) / 10000, o ++ [(more + y) % 10000], some ⟨g6, 0, none⟩, cap, hm1, Hbd.out, by go_num, rfl, by rw [Hdd.out], HR6⟩
        case measure => simp [intOf]; omega
      · by_cases hm0 : more = 0
        · subst hm0
          have p1 : decide ((i : Int) < (la.length : Int)) = false := decide_eq_false (by omega)
          have p2 : decide ((i : Int) < (lb.length : Int)) = false := decide_eq_false (by omega)
          have hil : i ≤ 200000 := by omega
          have hres : DgRd wr (.slice oa i oc) o := DgRd.of_row (by rw [hU.len]; omega) hU.len.symm hU.row
          have hval : nv o = nv la + nv lb := by
            have := hU.val
            rw [List.drop_eq_nil_of_le (by omega), List.drop_eq_nil_of_le (by omega)] at this
            simpa [nv] using this
          have HR : Hid (∃ v o', Ending.returned (.slice oa i oc) = .returned v ∧ DgRd wr v o' ∧ okD o' ∧ nv o' = nv la + nv lb ∧ o'.length ≤ max la.length lb.length + 1) := hide ⟨_, o, rfl, hres, hU.ok, hval, by rw [hU.len]; omega⟩
          have HB := hide hU.bel
          clear hq hU hres hval hi hil hm
          go_wp2_with fail
          go_ret
          exact ⟨HR.out, HB.out⟩
        · obtain rfl : more = 1 := by omega
          have hda : nv (la.drop i) = 0 := by rw [List.drop_eq_nil_of_le (by omega)]; rfl
          have hda' : nv (la.drop (i + 1)) = 0 := by rw [List.drop_eq_nil_of_le (by omega)]; rfl
          have p1 : decide ((i : Int) < (la.length : Int)) = false := decide_eq_false (by omega)
          have hdb : nv (lb.drop i) = 0 := by rw [List.drop_eq_nil_of_le (by omega)]; rfl
          have hdb' : nv (lb.drop (i + 1)) = 0 := by rw [List.drop_eq_nil_of_le (by omega)]; rfl
          have p2 : decide ((i : Int) < (lb.length : Int)) = false := decide_eq_false (by omega)
          have q0 : (0 : Int) ≤ (i : Int) := by omega
          have hz : (1 : Int) = (((1) % 10000 : Nat) : Int) := by omega
          have hd : (0 : Int) = (((1) / 10000 : Nat) : Int) := by omega
          have hm1 : (1) / 10000 ≤ 1 := by omega
          have hbd : i + 1 ≤ max la.length lb.length ∨ i + 1 = max la.length lb.length + 1 ∧ (1) / 10000 = 0 := by right; omega
          have HVL := hide (up_step (O := nv o) (p := 10000 ^ i) (show (1) + 10000 * nv (la.drop (i + 1)) + 10000 * nv (lb.drop (i + 1)) = 1 + nv (la.drop i) + nv (lb.drop i) by omega))
          have Hrow1 := hide (hU.row.alloc (.cells #[.int .i64 (1)] 3))
          have HN1 := hide (heap_alloc0 wr (.cells #[.int .i64 (1)] 3))
          have HZ : Hid ((wr.alloc (.cells #[.int .i64 (1)] 3)).heap.size = wr.heap.size + 1) := hide (by simp)
          have hsr := hU.bel.size
          have Hown := hide (row_own hU.row)
          have HU := hide hU
          have Hzz := hide hz
          have Hdd := hide hd
          obtain ⟨i0, hi0, hz0, hz1, hz2⟩ := dinfo_parts
          have Hi0 := hide hi0
          have Hy0 := hide hz0
          have Hy1 := hide hz1
          have Hy2 := hide hz2
          have Hbd := hide hbd
          clear hq hU hz hd hi0 hz0 hz1 hz2 hda hdb hbd hda' hdb'
          go_wp2_with ((refine wpList_append_lies _ rfl (.tmp 44) (.tmp 47) _ rfl w.heap.size 3 i0 (.int .i64 0) 1 8 Tryz.underlying41 Hi0.out Hy0.out Hy1.out Hy2.out rfl (by decide) (.slice oa i oc) i (dnums o) rfl Hrow1.out ⟨wr.heap.size, 0, none⟩ 1 1 [.int .i64 (1)] rfl rfl (World.news_of_block (cs := #[.int .i64 (1)]) HN1.out) (by simp [Value.oneCell']) (by decide) (by unfold maxLen; omega) (by omega) (by rw [HZ.out]; omega) (wr.heap.size + 1) HZ.out ?_; intro g6 cap w6 hown6 hgrow6 hat6 hlt6))
          have hB6 := below_grown' (v := .slice oa i oc) (HU.out.bel.alloc HU.out.bel.size (.cells #[.int .i64 (1)] 3)) hgrow6 Hown.out (by rw [HZ.out]; omega)
          rw [Hzz.out, ← dnums_snoc] at hown6
          have HR6 : Hid (UpAt w w6 la lb (i + 1) ((1) / 10000) (.slice (some ⟨g6, 0, none⟩) (i + 1) cap) (o ++ [(1) % 10000])) := hide ⟨hown6, by rw [List.length_append, HU.out.len]; rfl, ok_snoc HU.out.ok (Nat.mod_lt _ (by decide)), by
            rw [nv_snoc, HU.out.len, Nat.pow_succ, HVL.out]
            exact HU.out.val, hB6⟩
          clear hown6 hgrow6 hat6 hlt6 hB6 Hrow1 HN1 HZ hsr Hown HU HVL
          go_wp2_with fail
          go_roundw
          case rel => exact ⟨i + 1, (1) / 10000, o ++ [(1) % 10000], some ⟨g6, 0, none⟩, cap, hm1, Hbd.out, by go_num, rfl, by rw [Hdd.out], HR6⟩
          case measure => simp [intOf]; omega
end Go.Proofs.YtgfakdobajgnfaaGreatDoor

