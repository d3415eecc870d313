/- num (the document's): down, by. -/
import Derived.Test.YtgfakdobajgnfaaGreatDoorNm2
namespace Go.Proofs.YtgfakdobajgnfaaGreatDoor
open Go Go.RowKit Go.Lib

/-- Taking away: the digits so far, what is owed. -/
structure DnAt (w wr : World) (la lb : List Nat) (i owed : Nat) (v : Value) (o : List Nat) : Prop where
  row : wr.ownsRow w.heap.size 3 1 v i (dnums o)
  len : o.length = i
  ok : okD o
  val : nv o + nv (lb.take i) = nv (la.take i) + owed * 10000 ^ i
  bel : Below w.heap.size w wr
theorem down_step {O p A B x y d o o' : Nat} (h : O + B = A + o * p) (hd : o + d + y = x + 10000 * o') : O + p * d + (B + p * y) = A + p * x + o' * (p * 10000) := by
  have h1 : p * (o + d + y) = p * (x + 10000 * o') := by rw [hd]
  rw [Nat.mul_add, Nat.mul_add, Nat.mul_add] at h1
  have h2 : p * (10000 * o') = o' * (p * 10000) := by rw [← Nat.mul_assoc, Nat.mul_comm]
  have h3 : p * o = o * p := Nat.mul_comm _ _
  omega
set_option maxRecDepth 100000 in
set_option maxHeartbeats 8000000 in
theorem down_any {w : World} {sa sb : Value} {la lb : List Nat} (ha : DgRd w sa la) (hb : DgRd w sb lb) (hoa : okD la) (hob : okD lb) (hla : la.length ≤ 100000) (hlb : lb.length ≤ la.length) (hle : nv lb ≤ nv la) :
    Calls Tryz.prog 231 #[sa, sb] w fun e w' => (∃ v o, e = .returned v ∧ DgRd w' v o ∧ okD o ∧ nv o = nv la - nv lb ∧ o.length ≤ la.length) ∧ Below w.heap.size w w' := by
  obtain ⟨aa, ca, rfl, _⟩ := ha.slice
  obtain ⟨ab, cb, rfl, _⟩ := hb.slice
  have HA := hide ha
  have HBb := hide hb
  have HOA := hide hoa
  have HOB := hide hob
  have HLE := hide hle
  have HU0 : Hid (DnAt w w la lb 0 0 (.slice none 0 0) []) := hide ⟨World.ownsRow_nil _ _ _ _, rfl, fun _ h => by (cases h), by simp [nv], Below.refl _ _⟩
  clear ha hb hoa hob hle
  go_enter Tryz.func231, Tryz.ntmps231
  go_wp2_with fail
  go_loopw [5, 6, 7] (fun v5 v6 v7 wr => ∃ (i owed : Nat) (o : List Nat) (oa : Option Addr) (oc : Nat), owed ≤ 1 ∧ i ≤ la.length ∧ v7 = .int .i64 i ∧ v5 = .slice oa i oc ∧ v6 = .int .i64 owed ∧ Hid (DnAt w wr la lb i owed (.slice oa i oc) o)) (fun _ _ v7 _ => la.length - (intOf v7).toNat)
  case atStart => exact ⟨0, 0, [], none, 0, by omega, by omega, rfl, rfl, rfl, HU0⟩
  case round =>
    obtain ⟨i, owed, o, oa, oc, hm, hi, rfl, rfl, rfl, hq⟩ := hrel
    have hU := hq.out
    by_cases hia : i < la.length
    · obtain ⟨ba, fa, rfl, ha⟩ := HA.out.at hia
      have ha := bcell hU.bel ha
      have hxl := HOA.out _ (List.getElem_mem hia)
      have hta := nv_take_succ la i hia
      obtain ⟨x, hx⟩ : ∃ x, la[i] = x := ⟨_, rfl⟩
      rw [hx] at ha hta hxl
      have p1 : decide ((i : Int) < (la.length : Int)) = true := decide_eq_true (by omega)
      have p1' : (i : Int) < (la.length : Int) := by omega
      have q1 : (0 : Int) ≤ (x : Int) := by omega
      have q2 : (x : Int) ≤ 9999 := by omega
      by_cases hib : i < lb.length
      · by_cases hn : x < owed + lb[i]
        · skip
          obtain ⟨bb, fb, rfl, hb⟩ := HBb.out.at hib
          have hb := bcell hU.bel hb
          have hyl := HOB.out _ (List.getElem_mem hib)
          have htb := nv_take_succ lb i hib
          obtain ⟨y, hy⟩ : ∃ y, lb[i] = y := ⟨_, rfl⟩
          rw [hy] at hb htb hyl
          have p2 : decide ((i : Int) < (lb.length : Int)) = true := decide_eq_true (by omega)
          have p2' : (i : Int) < (lb.length : Int) := by omega
          have q3 : (0 : Int) ≤ (y : Int) := by omega
          have q4 : (y : Int) ≤ 9999 := by omega
          have q0 : (0 : Int) ≤ (i : Int) := by omega
          have q5 : (0 : Int) ≤ (owed : Int) := by omega
          have q6 : (owed : Int) ≤ 1 := by omega
          have p3 : decide ((x : Int) - (owed : Int) - (y : Int) < 0) = true := by simp; omega
          have hz : (((x : Int) - (owed : Int) - (y : Int) + 10000) : Int) = ((x + 10000 - owed - y : Nat) : Int) := by omega
          have hd9 : x + 10000 - owed - y < 10000 := by omega
          have HVL := hide (down_step (O := nv o) (p := 10000 ^ i) (A := nv (la.take i)) (B := nv (lb.take i)) (x := x) (y := y) (d := x + 10000 - owed - y) (o := owed) (o' := 1) hU.val (by omega))
          have Htb := hide htb
          have Hta := hide hta
          have Hrow1 := hide (hU.row.alloc (.cells #[.int .i64 (((x : Int) - (owed : Int) - (y : Int) + 10000))] 3))
          have HN1 := hide (heap_alloc0 wr (.cells #[.int .i64 (((x : Int) - (owed : Int) - (y : Int) + 10000))] 3))
          have HZ : Hid ((wr.alloc (.cells #[.int .i64 (((x : Int) - (owed : Int) - (y : Int) + 10000))] 3)).heap.size = wr.heap.size + 1) := hide (by simp)
          have hsr := hU.bel.size
          have Hown := hide (row_own hU.row)
          have HU := hide hU
          have Hzz := hide hz
          obtain ⟨i0, hi0, hz0, hz1, hz2⟩ := dinfo_parts
          have Hi0 := hide hi0
          have Hy0 := hide hz0
          have Hy1 := hide hz1
          have Hy2 := hide hz2
          clear hq hU hz hi0 hz0 hz1 hz2 htb hta hx hy
          go_wp2_with ((refine wpList_append_lies _ rfl (.tmp 35) (.tmp 37) _ rfl w.heap.size 3 i0 (.int .i64 0) 1 8 Tryz.underlying41 Hi0.out Hy0.out Hy1.out Hy2.out rfl (by decide) (.slice oa i oc) i (dnums o) rfl Hrow1.out ⟨wr.heap.size, 0, none⟩ 1 1 [.int .i64 (((x : Int) - (owed : Int) - (y : Int) + 10000))] rfl rfl (World.news_of_block (cs := #[.int .i64 (((x : Int) - (owed : Int) - (y : Int) + 10000))]) HN1.out) (by simp [Value.oneCell']) (by decide) (by unfold maxLen; omega) (by omega) (by rw [HZ.out]; omega) (wr.heap.size + 1) HZ.out ?_; intro g6 cap w6 hown6 hgrow6 hat6 hlt6))
          have hB6 := below_grown' (v := .slice oa i oc) (HU.out.bel.alloc HU.out.bel.size (.cells #[.int .i64 (((x : Int) - (owed : Int) - (y : Int) + 10000))] 3)) hgrow6 Hown.out (by rw [HZ.out]; omega)
          rw [Hzz.out, ← dnums_snoc] at hown6
          have HR6 : Hid (DnAt w w6 la lb (i + 1) 1 (.slice (some ⟨g6, 0, none⟩) (i + 1) cap) (o ++ [x + 10000 - owed - y])) := hide ⟨hown6, by rw [List.length_append, HU.out.len]; rfl, ok_snoc HU.out.ok hd9, by
            rw [nv_snoc, HU.out.len, Htb.out, Hta.out, Nat.pow_succ]
            exact HVL.out, hB6⟩
          clear hown6 hgrow6 hat6 hlt6 hB6 Hrow1 HN1 HZ hsr Hown HU HVL
          go_wp2_with fail
          go_roundw
          case rel => exact ⟨i + 1, 1, o ++ [x + 10000 - owed - y], some ⟨g6, 0, none⟩, cap, by omega, by omega, by go_num, rfl, rfl, HR6⟩
          case measure => simp [intOf]; omega
        · skip
          obtain ⟨bb, fb, rfl, hb⟩ := HBb.out.at hib
          have hb := bcell hU.bel hb
          have hyl := HOB.out _ (List.getElem_mem hib)
          have htb := nv_take_succ lb i hib
          obtain ⟨y, hy⟩ : ∃ y, lb[i] = y := ⟨_, rfl⟩
          rw [hy] at hb htb hyl
          have p2 : decide ((i : Int) < (lb.length : Int)) = true := decide_eq_true (by omega)
          have p2' : (i : Int) < (lb.length : Int) := by omega
          have q3 : (0 : Int) ≤ (y : Int) := by omega
          have q4 : (y : Int) ≤ 9999 := by omega
          have q0 : (0 : Int) ≤ (i : Int) := by omega
          have q5 : (0 : Int) ≤ (owed : Int) := by omega
          have q6 : (owed : Int) ≤ 1 := by omega
          have p3 : decide ((x : Int) - (owed : Int) - (y : Int) < 0) = false := by simp; omega
          have hz : ((x : Int) - (owed : Int) - (y : Int) : Int) = ((x - owed - y : Nat) : Int) := by omega
          have hd9 : x - owed - y < 10000 := by omega
          have HVL := hide (down_step (O := nv o) (p := 10000 ^ i) (A := nv (la.take i)) (B := nv (lb.take i)) (x := x) (y := y) (d := x - owed - y) (o := owed) (o' := 0) hU.val (by omega))
          have Htb := hide htb
          have Hta := hide hta
          have Hrow1 := hide (hU.row.alloc (.cells #[.int .i64 ((x : Int) - (owed : Int) - (y : Int))] 3))
          have HN1 := hide (heap_alloc0 wr (.cells #[.int .i64 ((x : Int) - (owed : Int) - (y : Int))] 3))
          have HZ : Hid ((wr.alloc (.cells #[.int .i64 ((x : Int) - (owed : Int) - (y : Int))] 3)).heap.size = wr.heap.size + 1) := hide (by simp)
          have hsr := hU.bel.size
          have Hown := hide (row_own hU.row)
          have HU := hide hU
          have Hzz := hide hz
          obtain ⟨i0, hi0, hz0, hz1, hz2⟩ := dinfo_parts
          have Hi0 := hide hi0
          have Hy0 := hide hz0
          have Hy1 := hide hz1
          have Hy2 := hide hz2
          clear hq hU hz hi0 hz0 hz1 hz2 htb hta hx hy
          go_wp2_with ((refine wpList_append_lies _ rfl (.tmp 35) (.tmp 37) _ rfl w.heap.size 3 i0 (.int .i64 0) 1 8 Tryz.underlying41 Hi0.out Hy0.out Hy1.out Hy2.out rfl (by decide) (.slice oa i oc) i (dnums o) rfl Hrow1.out ⟨wr.heap.size, 0, none⟩ 1 1 [.int .i64 ((x : Int) - (owed : Int) - (y : Int))] rfl rfl (World.news_of_block (cs := #[.int .i64 ((x : Int) - (owed : Int) - (y : Int))]) HN1.out) (by simp [Value.oneCell']) (by decide) (by unfold maxLen; omega) (by omega) (by rw [HZ.out]; omega) (wr.heap.size + 1) HZ.out ?_; intro g6 cap w6 hown6 hgrow6 hat6 hlt6))
          have hB6 := below_grown' (v := .slice oa i oc) (HU.out.bel.alloc HU.out.bel.size (.cells #[.int .i64 ((x : Int) - (owed : Int) - (y : Int))] 3)) hgrow6 Hown.out (by rw [HZ.out]; omega)
          rw [Hzz.out, ← dnums_snoc] at hown6
          have HR6 : Hid (DnAt w w6 la lb (i + 1) 0 (.slice (some ⟨g6, 0, none⟩) (i + 1) cap) (o ++ [x - owed - y])) := hide ⟨hown6, by rw [List.length_append, HU.out.len]; rfl, ok_snoc HU.out.ok hd9, by
            rw [nv_snoc, HU.out.len, Htb.out, Hta.out, Nat.pow_succ]
            exact HVL.out, hB6⟩
          clear hown6 hgrow6 hat6 hlt6 hB6 Hrow1 HN1 HZ hsr Hown HU HVL
          go_wp2_with fail
          go_roundw
          case rel => exact ⟨i + 1, 0, o ++ [x - owed - y], some ⟨g6, 0, none⟩, cap, by omega, by omega, by go_num, rfl, rfl, HR6⟩
          case measure => simp [intOf]; omega
      · by_cases hn : x < owed
        · skip
          have htb : nv (lb.take (i + 1)) = nv (lb.take i) + 10000 ^ i * 0 := by rw [List.take_of_length_le (by omega), List.take_of_length_le (by omega)]; simp
          have p2 : decide ((i : Int) < (lb.length : Int)) = false := decide_eq_false (by omega)
          have q0 : (0 : Int) ≤ (i : Int) := by omega
          have q5 : (0 : Int) ≤ (owed : Int) := by omega
          have q6 : (owed : Int) ≤ 1 := by omega
          have p3 : decide ((x : Int) - (owed : Int) < 0) = true := by simp; omega
          have hz : (((x : Int) - (owed : Int) + 10000) : Int) = ((x + 10000 - owed : Nat) : Int) := by omega
          have hd9 : x + 10000 - owed < 10000 := by omega
          have HVL := hide (down_step (O := nv o) (p := 10000 ^ i) (A := nv (la.take i)) (B := nv (lb.take i)) (x := x) (y := 0) (d := x + 10000 - owed) (o := owed) (o' := 1) hU.val (by omega))
          have Htb := hide htb
          have Hta := hide hta
          have Hrow1 := hide (hU.row.alloc (.cells #[.int .i64 (((x : Int) - (owed : Int) + 10000))] 3))
          have HN1 := hide (heap_alloc0 wr (.cells #[.int .i64 (((x : Int) - (owed : Int) + 10000))] 3))
          have HZ : Hid ((wr.alloc (.cells #[.int .i64 (((x : Int) - (owed : Int) + 10000))] 3)).heap.size = wr.heap.size + 1) := hide (by simp)
          have hsr := hU.bel.size
          have Hown := hide (row_own hU.row)
          have HU := hide hU
          have Hzz := hide hz
          obtain ⟨i0, hi0, hz0, hz1, hz2⟩ := dinfo_parts
          have Hi0 := hide hi0
          have Hy0 := hide hz0
          have Hy1 := hide hz1
          have Hy2 := hide hz2
          clear hq hU hz hi0 hz0 hz1 hz2 htb hta hx 
          go_wp2_with ((refine wpList_append_lies _ rfl (.tmp 35) (.tmp 37) _ rfl w.heap.size 3 i0 (.int .i64 0) 1 8 Tryz.underlying41 Hi0.out Hy0.out Hy1.out Hy2.out rfl (by decide) (.slice oa i oc) i (dnums o) rfl Hrow1.out ⟨wr.heap.size, 0, none⟩ 1 1 [.int .i64 (((x : Int) - (owed : Int) + 10000))] rfl rfl (World.news_of_block (cs := #[.int .i64 (((x : Int) - (owed : Int) + 10000))]) HN1.out) (by simp [Value.oneCell']) (by decide) (by unfold maxLen; omega) (by omega) (by rw [HZ.out]; omega) (wr.heap.size + 1) HZ.out ?_; intro g6 cap w6 hown6 hgrow6 hat6 hlt6))
          have hB6 := below_grown' (v := .slice oa i oc) (HU.out.bel.alloc HU.out.bel.size (.cells #[.int .i64 (((x : Int) - (owed : Int) + 10000))] 3)) hgrow6 Hown.out (by rw [HZ.out]; omega)
          rw [Hzz.out, ← dnums_snoc] at hown6
          have HR6 : Hid (DnAt w w6 la lb (i + 1) 1 (.slice (some ⟨g6, 0, none⟩) (i + 1) cap) (o ++ [x + 10000 - owed])) := hide ⟨hown6, by rw [List.length_append, HU.out.len]; rfl, ok_snoc HU.out.ok hd9, by
            rw [nv_snoc, HU.out.len, Htb.out, Hta.out, Nat.pow_succ]
            exact HVL.out, hB6⟩
          clear hown6 hgrow6 hat6 hlt6 hB6 Hrow1 HN1 HZ hsr Hown HU HVL
          go_wp2_with fail
          go_roundw
          case rel => exact ⟨i + 1, 1, o ++ [x + 10000 - owed], some ⟨g6, 0, none⟩, cap, by omega, by omega, by go_num, rfl, rfl, HR6⟩
          case measure => simp [intOf]; omega
        · skip
          have htb : nv (lb.take (i + 1)) = nv (lb.take i) + 10000 ^ i * 0 := by rw [List.take_of_length_le (by omega), List.take_of_length_le (by omega)]; simp
          have p2 : decide ((i : Int) < (lb.length : Int)) = false := decide_eq_false (by omega)
          have q0 : (0 : Int) ≤ (i : Int) := by omega
          have q5 : (0 : Int) ≤ (owed : Int) := by omega
          have q6 : (owed : Int) ≤ 1 := by omega
          have p3 : decide ((x : Int) - (owed : Int) < 0) = false := by simp; omega
          have hz : ((x : Int) - (owed : Int) : Int) = ((x - owed : Nat) : Int) := by omega
          have hd9 : x - owed < 10000 := by omega
          have HVL := hide (down_step (O := nv o) (p := 10000 ^ i) (A := nv (la.take i)) (B := nv (lb.take i)) (x := x) (y := 0) (d := x - owed) (o := owed) (o' := 0) hU.val (by omega))
          have Htb := hide htb
          have Hta := hide hta
          have Hrow1 := hide (hU.row.alloc (.cells #[.int .i64 ((x : Int) - (owed : Int))] 3))
          have HN1 := hide (heap_alloc0 wr (.cells #[.int .i64 ((x : Int) - (owed : Int))] 3))
          have HZ : Hid ((wr.alloc (.cells #[.int .i64 ((x : Int) - (owed : Int))] 3)).heap.size = wr.heap.size + 1) := hide (by simp)
          have hsr := hU.bel.size
          have Hown := hide (row_own hU.row)
          have HU := hide hU
          have Hzz := hide hz
          obtain ⟨i0, hi0, hz0, hz1, hz2⟩ := dinfo_parts
          have Hi0 := hide hi0
          have Hy0 := hide hz0
          have Hy1 := hide hz1
          have Hy2 := hide hz2
          clear hq hU hz hi0 hz0 hz1 hz2 htb hta hx 
          go_wp2_with ((refine wpList_append_lies _ rfl (.tmp 35) (.tmp 37) _ rfl w.heap.size 3 i0 (.int .i64 0) 1 8 Tryz.underlying41 Hi0.out Hy0.out Hy1.out Hy2.out rfl (by decide) (.slice oa i oc) i (dnums o) rfl Hrow1.out ⟨wr.heap.size, 0, none⟩ 1 1 [.int .i64 ((x : Int) - (owed : Int))] rfl rfl (World.news_of_block (cs := #[.int .i64 ((x : Int) - (owed : Int))]) HN1.out) (by simp [Value.oneCell']) (by decide) (by unfold maxLen; omega) (by omega) (by rw [HZ.out]; omega) (wr.heap.size + 1) HZ.out ?_; intro g6 cap w6 hown6 hgrow6 hat6 hlt6))
          have hB6 := below_grown' (v := .slice oa i oc) (HU.out.bel.alloc HU.out.bel.size (.cells #[.int .i64 ((x : Int) - (owed : Int))] 3)) hgrow6 Hown.out (by rw [HZ.out]; omega)
          rw [Hzz.out, ← dnums_snoc] at hown6
          have HR6 : Hid (DnAt w w6 la lb (i + 1) 0 (.slice (some ⟨g6, 0, none⟩) (i + 1) cap) (o ++ [x - owed])) := hide ⟨hown6, by rw [List.length_append, HU.out.len]; rfl, ok_snoc HU.out.ok hd9, by
            rw [nv_snoc, HU.out.len, Htb.out, Hta.out, Nat.pow_succ]
            exact HVL.out, hB6⟩
          clear hown6 hgrow6 hat6 hlt6 hB6 Hrow1 HN1 HZ hsr Hown HU HVL
          go_wp2_with fail
          go_roundw
          case rel => exact ⟨i + 1, 0, o ++ [x - owed], some ⟨g6, 0, none⟩, cap, by omega, by omega, by go_num, rfl, rfl, HR6⟩
          case measure => simp [intOf]; omega
    · obtain rfl : i = la.length := by omega
      have p1 : decide ((la.length : Int) < (la.length : Int)) = false := by simp
      have hres : DgRd wr (.slice oa la.length oc) o := DgRd.of_row (by rw [hU.len]; omega) hU.len.symm hU.row
      have hval : nv o = nv la - nv lb := by
        have h1 := hU.val
        rw [List.take_length, List.take_of_length_le (by omega)] at h1
        have h2 := nv_lt o hU.ok
        rw [hU.len] at h2
        have h3 := HLE.out
        have : owed = 0 := by
          obtain e | e : owed = 0 ∨ owed = 1 := by omega
          · exact e
          · rw [e] at h1
            omega
        rw [this] at h1
        omega
      have HR : Hid (∃ v o', Ending.returned (.slice oa la.length oc) = .returned v ∧ DgRd wr v o' ∧ okD o' ∧ nv o' = nv la - nv lb ∧ o'.length ≤ la.length) := hide ⟨_, o, rfl, hres, hU.ok, hval, by rw [hU.len]; omega⟩
      have HB := hide hU.bel
      clear hq hU hres hval hi hm hia
      go_wp2_with fail
      go_ret
      exact ⟨HR.out, HB.out⟩
/-- Which of two numbers is less. -/
def ByIs (n m : Nat) (r : Int) : Prop := (r < 0 ↔ n < m) ∧ (0 < r ↔ m < n) ∧ -100000 ≤ r ∧ r ≤ 100000
set_option maxRecDepth 100000 in
set_option maxHeartbeats 8000000 in
theorem by_any {w : World} {sa sb : Value} {n m : Nat} (ha : DgRd w sa (dg n)) (hb : DgRd w sb (dg m)) (hla : lenD n ≤ 100000) (hlb : lenD m ≤ 100000) :
    Calls Tryz.prog 230 #[sa, sb] w fun e w' => (∃ r, e = .returned (.int .i64 r) ∧ ByIs n m r) ∧ Below w.heap.size w w' := by
  obtain ⟨aa, ca, rfl, _⟩ := ha.slice
  obtain ⟨ab, cb, rfl, _⟩ := hb.slice
  have hna : (dg n).length = lenD n := rfl
  have hmb : (dg m).length = lenD m := rfl
  by_cases hl : lenD n = lenD m
  · obtain ⟨la, hla'⟩ : ∃ l, dg n = l := ⟨_, rfl⟩
    obtain ⟨lb, hlb'⟩ : ∃ l, dg m = l := ⟨_, rfl⟩
    have hoa := ok_dg n
    have hob := ok_dg m
    have hvn := nv_dg n
    have hvm := nv_dg m
    rw [hla'] at ha hna hoa hvn ⊢
    rw [hlb'] at hb hmb hob hvm ⊢
    have hll : la.length = lb.length := by omega
    have h5 : la.length ≤ 100000 := by omega
    have HA := hide ha
    have HBb := hide hb
    have HOA := hide hoa
    have HOB := hide hob
    have HLL := hide hll
    have HVN := hide hvn
    have HVM := hide hvm
    rw [← hll]
    have HQ : Hid (la.drop la.length = lb.drop la.length) := hide (by rw [List.drop_length, hll, List.drop_length])
    clear ha hb hoa hob hvn hvm hla' hlb' hna hmb hl hll hla hlb
    have hne : ((la.length : Int) != (la.length : Int)) = false := by simp
    go_enter Tryz.func230, Tryz.ntmps230
    go_wp2_with fail
    go_loopw [5] (fun v5 wr => ∃ k : Nat, k ≤ la.length ∧ v5 = .int .i64 ((k : Int) - 1) ∧ Hid (la.drop k = lb.drop k) ∧ Hid (Below w.heap.size w wr)) (fun v5 _ => (intOf v5 + 1).toNat)
    case atStart => exact ⟨la.length, Nat.le_refl _, rfl, HQ, Below.refl _ _⟩
    case round =>
      obtain ⟨k, hk, rfl, hq, hB⟩ := hrel
      by_cases hk0 : k = 0
      · subst hk0
        have p1 : decide ((0 : Int) ≤ ((0 : Nat) : Int) - 1) = false := by simp
        have p2 : decide ((0 : Int) ≤ -1) = false := by simp
        have HR : Hid (ByIs n m 0) := hide (by
          have h1 := hq.out
          rw [List.drop_zero, List.drop_zero] at h1
          have : n = m := by rw [← HVN.out, ← HVM.out, h1]
          unfold ByIs
          omega)
        have HB := hide hB.out
        clear hq hB HQ
        go_wp2_with fail
        go_ret
        exact ⟨⟨0, rfl, HR.out⟩, HB.out⟩
      · obtain ⟨j, rfl⟩ : ∃ j, k = j + 1 := ⟨k - 1, by omega⟩
        have hja : j < la.length := by omega
        have hjb : j < lb.length := by have := HLL.out; omega
        obtain ⟨ba, fa, rfl, hca⟩ := HA.out.at hja
        obtain ⟨bb, fb, rfl, hcb⟩ := HBb.out.at hjb
        have hca := bcell hB.out hca
        have hcb := bcell hB.out hcb
        have hxl := HOA.out _ (List.getElem_mem hja)
        have hyl := HOB.out _ (List.getElem_mem hjb)
        have hlt := cmp_at HOA.out HLL.out hja hjb hq.out
        have hgt := cmp_at HOB.out HLL.out.symm hjb hja hq.out.symm
        have heq : la[j] = lb[j] → la.drop j = lb.drop j := fun e => by rw [List.drop_eq_getElem_cons hja, List.drop_eq_getElem_cons hjb, e, hq.out]
        obtain ⟨x, hx⟩ : ∃ x, la[j] = x := ⟨_, rfl⟩
        obtain ⟨y, hy⟩ : ∃ y, lb[j] = y := ⟨_, rfl⟩
        rw [hx] at hca hxl hlt hgt heq
        rw [hy] at hcb hyl hlt hgt heq
        have j0 : ((j + 1 : Nat) : Int) - 1 = (j : Int) := by omega
        rw [j0]
        have j1 : (0 : Int) ≤ (j : Int) := by omega
        have j2 : (j : Int) < (la.length : Int) := by omega
        have p1 : decide ((0 : Int) ≤ (j : Int)) = true := decide_eq_true j1
        have q1 : (0 : Int) ≤ (x : Int) := by omega
        have q2 : (x : Int) ≤ 9999 := by omega
        have q3 : (0 : Int) ≤ (y : Int) := by omega
        have q4 : (y : Int) ≤ 9999 := by omega
        have HD := fun nq => hide (show Below w.heap.size w (wr.drewN nq) from below_drewN hB.out nq)
        have HD2 := fun p q => hide (show Below w.heap.size w ((wr.drewN p).drewN q) from below_drewN (below_drewN hB.out p) q)
        by_cases hxy : x = y
        · subst hxy
          have HQ2 := hide (heq rfl)
          have p3 : ((x : Int) != (x : Int)) = false := by simp
          clear hq hB HQ hx hy hlt hgt heq j0 hk hk0
          go_wp2_with fail
          go_quiet (fail)
          go_wp2_with fail
          refine ⟨⟨j, by omega, rfl, HQ2, HD _⟩, ?_⟩
          simp [intOf]
        · have p3 : ((x : Int) != (y : Int)) = true := by simp; omega
          have HR : Hid (ByIs n m ((x : Int) - (y : Int))) := hide (by
            have h1 := HVN.out
            have h2 := HVM.out
            unfold ByIs
            rcases Nat.lt_or_ge x y with h | h
            · have := hlt h
              omega
            · have := hgt (by omega)
              omega)
          clear hq hB HQ hx hy hlt hgt heq j0 hk hk0
          go_wp2_with fail
          go_quiet (fail)
          go_wp2_with fail
          go_quiet (fail)
          go_wp2_with fail
          go_ret
          exact ⟨⟨_, rfl, HR.out⟩, (HD2 _ _).out⟩
  · have h1 : ((lenD n : Int) != (lenD m : Int)) = true := by simp; omega
    have HR : Hid (ByIs n m ((lenD n : Int) - (lenD m : Int))) := hide (by
      unfold ByIs
      rcases Nat.lt_or_ge (lenD n) (lenD m) with h | h
      · have := lt_of_len h
        omega
      · have := lt_of_len (show lenD m < lenD n by omega)
        omega)
    rw [hna, hmb]
    clear ha hb hna hmb hl
    go_enter Tryz.func230, Tryz.ntmps230
    go_wp2_with fail
    go_ret
    exact ⟨⟨_, rfl, HR.out⟩, Below.refl _ _⟩
end Go.Proofs.YtgfakdobajgnfaaGreatDoor

