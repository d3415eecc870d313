/- The contract of order.Compare. -/
import Derived.Test.YtelgajgghgknnaaRec
import Derived.Test.YtelgajgghgknnaaAc
namespace Go.Proofs.Ytelgajgghgknnaa
open Go Go.RowKit Go.MapKept Go.Sort Go.Shelf

/-- Which of two activations is ahead. -/
def cmpA (s : Int) (a b : Ac) : Int :=
  if Lib.compareInt b.sal a.sal ≠ 0 then Lib.compareInt b.sal a.sal
  else if recency s a.tup b.tup ≠ 0 then recency s a.tup b.tup
  else if Lib.compareInt a.rule b.rule ≠ 0 then Lib.compareInt a.rule b.rule
  else cmpL a.tup b.tup

theorem sal_any (pb pa : Nat) (x y : Int) (w : World) (h1 : w.cell? ⟨pb, 2, none⟩ = some (.int .i64 y)) (h2 : w.cell? ⟨pa, 2, none⟩ = some (.int .i64 x)) :
    Calls Try.prog 56 #[.pointer (some ⟨pb, 0, none⟩), .pointer (some ⟨pa, 0, none⟩)] w fun e w' => e = .returned (.int .i64 (Lib.compareInt y x)) ∧ w' = w := by
  go_enter Try.func56, Try.ntmps56
  go_wp2_with fail
  refine (Try.cmp_Compare_int y x _).mono ?_
  rintro e w' ⟨rfl, rfl⟩
  go_wp2
  go_ret
  exact ⟨rfl, rfl⟩

theorem rule_any (pa pb : Nat) (x y : Int) (w : World) (h1 : w.cell? ⟨pa, 0, none⟩ = some (.int .i64 x)) (h2 : w.cell? ⟨pb, 0, none⟩ = some (.int .i64 y)) :
    Calls Try.prog 58 #[.pointer (some ⟨pa, 0, none⟩), .pointer (some ⟨pb, 0, none⟩)] w fun e w' => e = .returned (.int .i64 (Lib.compareInt x y)) ∧ w' = w := by
  go_enter Try.func58, Try.ntmps58
  go_wp2_with fail
  refine (Try.cmp_Compare_int x y _).mono ?_
  rintro e w' ⟨rfl, rfl⟩
  go_wp2
  go_ret
  exact ⟨rfl, rfl⟩

theorem tup_any (pa pb : Nat) (xa xb : Value) (l m : List Int) (w : World) (h1 : w.cell? ⟨pa, 1, none⟩ = some xa) (h2 : w.cell? ⟨pb, 1, none⟩ = some xb) (hxa : NIs w xa l) (hxb : NIs w xb m) :
    Calls Try.prog 59 #[.pointer (some ⟨pa, 0, none⟩), .pointer (some ⟨pb, 0, none⟩)] w fun e w' => e = .returned (.int .i64 (cmpL l m)) ∧ w' = w := by
  obtain ⟨xaa, xac, rfl⟩ := hxa.form
  obtain ⟨xba, xbc, rfl⟩ := hxb.form
  have Hc := hide (ncompare _ _ l m w hxa hxb)
  clear hxa hxb
  go_enter Try.func59, Try.ntmps59
  go_wp2_with fail
  refine Hc.out.mono ?_
  rintro e w' ⟨rfl, rfl⟩
  go_wp2
  go_ret
  exact ⟨rfl, rfl⟩

theorem heap4 (w : World) (o1 o2 o3 o4 : Obj) : ∃ W, (((w.alloc o1).alloc o2).alloc o3).alloc o4 = W ∧ W.heap[w.heap.size]? = some o1 ∧ W.heap[w.heap.size + 1]? = some o2 ∧ W.heap[w.heap.size + 1 + 1]? = some o3 ∧ W.heap[w.heap.size + 1 + 1 + 1]? = some o4 ∧ W.heap.size = w.heap.size + 4 ∧ Below w.heap.size w W := by
  refine ⟨_, rfl, ?_, ?_, ?_, ?_, by simp, ?_⟩
  · rw [Below.heap_alloc _ _ _ (by simp <;> omega), Below.heap_alloc _ _ _ (by simp <;> omega), Below.heap_alloc _ _ _ (by simp <;> omega), (MapKept.heap_alloc w o1).1]
  · rw [Below.heap_alloc _ _ _ (by simp <;> omega), Below.heap_alloc _ _ _ (by simp <;> omega)]
    simpa using (MapKept.heap_alloc (w.alloc o1) o2).1
  · rw [Below.heap_alloc _ _ _ (by simp <;> omega)]
    simpa using (MapKept.heap_alloc ((w.alloc o1).alloc o2) o3).1
  · simpa using (MapKept.heap_alloc (((w.alloc o1).alloc o2).alloc o3) o4).1
  · exact (((Only.refl [] w).alloc o1).alloc o2 |>.alloc o3 |>.alloc o4).below

theorem cellAt {w : World} {b i : Nat} {cs : Array Value} {x : Value} {t : TypeId} (h : w.heap[b]? = some (.cells cs t (0, 0))) (hx : cs[i]? = some x) : w.cell? ⟨b, i, none⟩ = some x := by simp [World.cell?, h, hx]

set_option maxHeartbeats 1000000 in
theorem compare_any (s : Int) (a b : Ac) (w : World) (ha : NIs w a.x a.tup) (hb : NIs w b.x b.tup) :
    Calls Try.prog 46 #[.int .u8 s, a.val, b.val] w fun e w' => e = .returned (.int .i64 (cmpA s a b)) ∧ Below w.heap.size w w' := by
  obtain ⟨ra, l, sa, xa⟩ := a
  obtain ⟨rb, m, sb, xb⟩ := b
  simp only at ha hb
  obtain ⟨xaa, xac, rfl⟩ := ha.form
  obtain ⟨xba, xbc, rfl⟩ := hb.form
  have Ha := hide ha
  have Hb := hide hb
  clear ha hb
  unfold Ac.val
  go_enter Try.func46, Try.ntmps46
  go_wp2_with fail
  obtain ⟨W, hW, h1, h2, h3, h4, hsz, hbW⟩ := heap4 w (Obj.cells #[.int .u8 s] 5) (Obj.cells #[.int .i64 ra, .slice xaa l.length xac, .int .i64 sa] 27) (Obj.cells #[.int .i64 rb, .slice xba m.length xbc, .int .i64 sb] 27)
    (Obj.cells #[.func (.func 56) #[] #[.pointer (some ⟨w.heap.size + 1 + 1, 0, none⟩), .pointer (some ⟨w.heap.size + 1, 0, none⟩)], .func (.func 53) #[] #[.pointer (some ⟨w.heap.size, 0, none⟩), .pointer (some ⟨w.heap.size + 1, 0, none⟩), .pointer (some ⟨w.heap.size + 1 + 1, 0, none⟩)],
      .func (.func 58) #[] #[.pointer (some ⟨w.heap.size + 1, 0, none⟩), .pointer (some ⟨w.heap.size + 1 + 1, 0, none⟩)], .func (.func 59) #[] #[.pointer (some ⟨w.heap.size + 1, 0, none⟩), .pointer (some ⟨w.heap.size + 1 + 1, 0, none⟩)]] 80)
  rw [hW]
  have HaW := hide (Ha.out.below hbW)
  have HbW := hide (Hb.out.below hbW)
  have BW := hide hbW
  have ps : W.cell? ⟨w.heap.size, 0, none⟩ = some (.int .u8 s) := cellAt (i := 0) h1 rfl
  have a0 : W.cell? ⟨w.heap.size + 1, 0, none⟩ = some (.int .i64 ra) := cellAt (i := 0) h2 rfl
  have a1 : W.cell? ⟨w.heap.size + 1, 1, none⟩ = some (.slice xaa l.length xac) := cellAt (i := 1) h2 rfl
  have a2 : W.cell? ⟨w.heap.size + 1, 2, none⟩ = some (.int .i64 sa) := cellAt (i := 2) h2 rfl
  have b0 : W.cell? ⟨w.heap.size + 1 + 1, 0, none⟩ = some (.int .i64 rb) := cellAt (i := 0) h3 rfl
  have b1 : W.cell? ⟨w.heap.size + 1 + 1, 1, none⟩ = some (.slice xba m.length xbc) := cellAt (i := 1) h3 rfl
  have b2 : W.cell? ⟨w.heap.size + 1 + 1, 2, none⟩ = some (.int .i64 sb) := cellAt (i := 2) h3 rfl
  have f0 := cellAt (i := 0) h4 rfl
  have f1 := cellAt (i := 1) h4 rfl
  have f2 := cellAt (i := 2) h4 rfl
  have f3 := cellAt (i := 3) h4 rfl
  have Cells : Hid (∀ wr, Below W.heap.size W wr → ∀ b i x, b < w.heap.size + 4 → W.cell? ⟨b, i, none⟩ = some x → wr.cell? ⟨b, i, none⟩ = some x) := fun wr hb b i x hlt h => (hb.cell (p := ⟨b, i, none⟩) (by simp only; omega)).trans h
  clear h1 h2 h3 h4 hW Ha Hb hbW
  have P := hide ps; have A0 := hide a0; have A1 := hide a1; have A2 := hide a2; have B0 := hide b0; have B1 := hide b1; have B2 := hide b2; have F0 := hide f0; have F1 := hide f1; have F2 := hide f2; have F3 := hide f3
  clear ps a0 a1 a2 b0 b1 b2 f0 f1 f2 f3
  go_loopw [20] (fun i wr => ∃ k : Nat, k ≤ 4 ∧ i = .int .i64 k ∧ Hid ((1 ≤ k → Lib.compareInt sb sa = 0) ∧ (2 ≤ k → recency s l m = 0) ∧ (3 ≤ k → Lib.compareInt ra rb = 0) ∧ (4 ≤ k → cmpL l m = 0)) ∧ Hid (Below W.heap.size W wr)) (fun i _ => 4 - (intOf i).toNat)
  case atStart => exact ⟨0, by omega, rfl, ⟨by omega, by omega, by omega, by omega⟩, Below.refl _ _⟩
  case round =>
    obtain ⟨k, hk, rfl, hq, hB⟩ := hrel
    obtain rfl | rfl | rfl | rfl | rfl : k = 0 ∨ k = 1 ∨ k = 2 ∨ k = 3 ∨ k = 4 := by omega
    · have f0 := Cells.out wr hB.out _ _ _ (by omega) F0.out
      go_wp2_with fail
      refine (sal_any (w.heap.size + 1 + 1) (w.heap.size + 1) sa sb wr (Cells.out wr hB.out _ _ _ (by omega) B2.out) (Cells.out wr hB.out _ _ _ (by omega) A2.out)).mono ?_
      rintro e w' ⟨rfl, hw⟩
      rw [hw]
      clear hw
      by_cases hz : Lib.compareInt sb sa = 0
      · have hzb : (Lib.compareInt sb sa != 0) = false := by simpa using hz
        have Hz := hide hz
        clear hz
        go_wp2
        go_roundw
        case rel => exact ⟨1, by omega, rfl, ⟨fun _ => Hz.out, by omega, by omega, by omega⟩, hB.out⟩
        case measure => simp [intOf]
      · have hzb : (Lib.compareInt sb sa != 0) = true := by simpa using hz
        have Hz := hide hz
        clear hz
        go_wp2
        go_ret
        exact ⟨by simp only [cmpA]; rw [if_pos Hz.out]; rfl, BW.out.trans ((hB.out).mono (by omega))⟩
    · have f0 := Cells.out wr hB.out _ _ _ (by omega) F1.out
      go_wp2_with fail
      refine (recency_any s w.heap.size (w.heap.size + 1) (w.heap.size + 1 + 1) _ _ l m wr (Cells.out wr hB.out _ _ _ (by omega) P.out) (Cells.out wr hB.out _ _ _ (by omega) A1.out) (Cells.out wr hB.out _ _ _ (by omega) B1.out) (HaW.out.below hB.out) (HbW.out.below hB.out)).mono ?_
      rintro e w2 ⟨rfl, hb2⟩
      have HB2 := hide (hB.out.trans (hb2.mono hB.out.size))
      clear hb2 f0
      by_cases hz : recency s l m = 0
      · have hzb : (recency s l m != 0) = false := by simpa using hz
        have Hz := hide hz
        clear hz
        go_wp2
        go_roundw
        case rel => exact ⟨2, by omega, rfl, ⟨fun _ => hq.out.1 (by omega), fun _ => Hz.out, by omega, by omega⟩, HB2.out⟩
        case measure => simp [intOf]
      · have hzb : (recency s l m != 0) = true := by simpa using hz
        have Hz := hide hz
        clear hz
        go_wp2
        go_ret
        exact ⟨by simp only [cmpA]; rw [if_neg (fun hh => hh (hq.out.1 (by omega)))]; rw [if_pos Hz.out]; rfl, BW.out.trans ((HB2.out).mono (by omega))⟩
    · have f0 := Cells.out wr hB.out _ _ _ (by omega) F2.out
      go_wp2_with fail
      refine (rule_any (w.heap.size + 1) (w.heap.size + 1 + 1) ra rb wr (Cells.out wr hB.out _ _ _ (by omega) A0.out) (Cells.out wr hB.out _ _ _ (by omega) B0.out)).mono ?_
      rintro e w' ⟨rfl, hw⟩
      rw [hw]
      clear hw
      by_cases hz : Lib.compareInt ra rb = 0
      · have hzb : (Lib.compareInt ra rb != 0) = false := by simpa using hz
        have Hz := hide hz
        clear hz
        go_wp2
        go_roundw
        case rel => exact ⟨3, by omega, rfl, ⟨fun _ => hq.out.1 (by omega), fun _ => hq.out.2.1 (by omega), fun _ => Hz.out, by omega⟩, hB.out⟩
        case measure => simp [intOf]
      · have hzb : (Lib.compareInt ra rb != 0) = true := by simpa using hz
        have Hz := hide hz
        clear hz
        go_wp2
        go_ret
        exact ⟨by simp only [cmpA]; rw [if_neg (fun hh => hh (hq.out.1 (by omega)))]; rw [if_neg (fun hh => hh (hq.out.2.1 (by omega)))]; rw [if_pos Hz.out]; rfl, BW.out.trans ((hB.out).mono (by omega))⟩
    · have f0 := Cells.out wr hB.out _ _ _ (by omega) F3.out
      go_wp2_with fail
      refine (tup_any (w.heap.size + 1) (w.heap.size + 1 + 1) _ _ l m wr (Cells.out wr hB.out _ _ _ (by omega) A1.out) (Cells.out wr hB.out _ _ _ (by omega) B1.out) (HaW.out.below hB.out) (HbW.out.below hB.out)).mono ?_
      rintro e w' ⟨rfl, hw⟩
      rw [hw]
      clear hw
      by_cases hz : cmpL l m = 0
      · have hzb : (cmpL l m != 0) = false := by simpa using hz
        have Hz := hide hz
        clear hz
        go_wp2
        go_roundw
        case rel => exact ⟨4, by omega, rfl, ⟨fun _ => hq.out.1 (by omega), fun _ => hq.out.2.1 (by omega), fun _ => hq.out.2.2.1 (by omega), fun _ => Hz.out⟩, hB.out⟩
        case measure => simp [intOf]
      · have hzb : (cmpL l m != 0) = true := by simpa using hz
        have Hz := hide hz
        clear hz
        go_wp2
        go_ret
        exact ⟨by simp only [cmpA]; rw [if_neg (fun hh => hh (hq.out.1 (by omega)))]; rw [if_neg (fun hh => hh (hq.out.2.1 (by omega)))]; rw [if_neg (fun hh => hh (hq.out.2.2.1 (by omega)))]; skip; rfl, BW.out.trans ((hB.out).mono (by omega))⟩
    · go_wp2
      go_ret
      exact ⟨by simp only [cmpA]; rw [if_neg (fun hh => hh (hq.out.1 (by omega)))]; rw [if_neg (fun hh => hh (hq.out.2.1 (by omega)))]; rw [if_neg (fun hh => hh (hq.out.2.2.1 (by omega)))]; rw [hq.out.2.2.2 (by omega)]; rfl, BW.out.trans (hB.out.mono (by omega))⟩
end Go.Proofs.Ytelgajgghgknnaa
