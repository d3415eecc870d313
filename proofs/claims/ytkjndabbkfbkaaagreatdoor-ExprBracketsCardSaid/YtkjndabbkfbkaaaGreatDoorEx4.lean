/- expr: literal, calls. -/
import Derived.Test.YtkjndabbkfbkaaaGreatDoorEx1
import Derived.Test.YtkjndabbkfbkaaaGreatDoorSMap
import Derived.Deep.CutBlock
import Derived.Carry
namespace Go.Proofs.YtkjndabbkfbkaaaGreatDoor
open Go Go.RowKit

/-- A value as it is handed over. -/
def valV (v : Int × Int × List UInt8) : Value := .agg #[.int .u8 v.1, .int .i64 v.2.1, .string ⟨v.2.2.toArray⟩]
theorem zeroV (w : World) : (zeroValue 32).run Tryz.prog w = .ok (.agg #[.int .u8 0, .int .i64 0, .string ⟨#[]⟩]) w := by kernel_rfl
theorem zeroC (w : World) : (zeroValue 131).run Tryz.prog w = .ok (.agg #[.int .u8 0, .int .i64 0, .int .i64 0]) w := by kernel_rfl
theorem slook_cons (a k : List UInt8) (v : Value) (l : List (List UInt8 × Value)) : slook ((a, v) :: l) k = if k = a then some v else slook l k := by
  unfold slook
  by_cases h : k = a
  · subst h
    simp
  · have : (a == k) = false := by simpa using fun e => h e.symm
    simp [h, this]
theorem slook_nil (k : List UInt8) : slook [] k = none := rfl
theorem cells3 {w : World} {b : Nat} {x y z : Value} {t : TypeId} (h : w.heap[b]? = some (.cells #[x, y, z] t (0, 0))) : w.cell? ⟨b, 0, none⟩ = some x ∧ w.cell? ⟨b, 1, none⟩ = some y ∧ w.cell? ⟨b, 2, none⟩ = some z ∧ ∀ i, w.frozen? ⟨b, i, none⟩ = false :=
  ⟨by simp only [World.cell?, h]; rfl, by simp only [World.cell?, h]; rfl, by simp only [World.cell?, h]; rfl, fun i => by simp only [World.frozen?, h]; simp⟩
/-- A call as it is handed over. -/
def callV (c : Int × Nat × Nat) : Value := .agg #[.int .u8 c.1, .int .i64 (c.2.1 : Int), .int .i64 (c.2.2 : Int)]
def litT : List (List UInt8 × Value) := [([116, 114, 117, 101], .agg #[.int .u8 4, .int .i64 1, .string ⟨#[]⟩]), ([102, 97, 108, 115, 101], .agg #[.int .u8 4, .int .i64 0, .string ⟨#[]⟩]), ([110, 117, 108, 108], .agg #[.int .u8 0, .int .i64 0, .string ⟨#[]⟩])]
theorem look_litT (s : List UInt8) : slook litT s = (litL s).map valV := by
  unfold litT litL
  rw [slook_cons, slook_cons, slook_cons, slook_nil]
  repeat' split
  all_goals rfl
set_option maxRecDepth 100000 in
set_option maxHeartbeats 4000000 in
theorem literal_any (s : List UInt8) (w : World) : Calls Tryz.prog 104 #[.string ⟨s.toArray⟩] w fun e w' => e = .returned (.tuple #[valV ((litL s).getD v0), .bool (litL s).isSome]) ∧ Below w.heap.size w w' := by
  obtain ⟨W0, hW0⟩ : ∃ W0, w.alloc (.cells #[.int .u8 0, .int .i64 0, .string ⟨#[]⟩] 32) = W0 := ⟨_, rfl⟩
  have hb0 : Below w.heap.size w W0 := by rw [← hW0]; exact (Below.refl w.heap.size w).alloc (Nat.le_refl _) _
  have hbx := heap_alloc0 w (.cells #[.int .u8 0, .int .i64 0, .string ⟨#[]⟩] 32)
  have hz0 : W0.heap.size = w.heap.size + 1 := by rw [← hW0]; simp
  rw [hW0] at hbx
  have m0 := SMap.new W0
  have ha : Below W0.heap.size W0 (W0.alloc (.map #[] 0)) := (Below.refl _ _).alloc (Nat.le_refl _) _
  have hm0 : (W0.alloc (.map #[] 0)).heap.size = W0.heap.size + 1 := by simp
  obtain ⟨M0, hM0⟩ : ∃ M0, W0.alloc (.map #[] 0) = M0 := ⟨_, rfl⟩
  rw [hM0, hz0] at m0
  rw [hM0] at ha hm0
  obtain ⟨M1, e1, m1, o1, z1⟩ := srun_put (P := Tryz.prog) (t := 169) Tryz.underlying169 Tryz.underlying9 m0 [116, 114, 117, 101] (.agg #[.int .u8 4, .int .i64 1, .string ⟨#[]⟩]) (by decide)
  obtain ⟨M2, e2, m2, o2, z2⟩ := srun_put (P := Tryz.prog) (t := 169) Tryz.underlying169 Tryz.underlying9 m1 [102, 97, 108, 115, 101] (.agg #[.int .u8 4, .int .i64 0, .string ⟨#[]⟩]) (by decide)
  obtain ⟨M3, e3, m3, o3, z3⟩ := srun_put (P := Tryz.prog) (t := 169) Tryz.underlying169 Tryz.underlying9 m2 [110, 117, 108, 108] (.agg #[.int .u8 0, .int .i64 0, .string ⟨#[]⟩]) (by decide)
  have hlk := srun_lookup (P := Tryz.prog) (t := 169) Tryz.underlying169 Tryz.underlying9 m3 (zeroV M3) s
  rw [show ([] : List (List UInt8 × Value)) ++ [([116, 114, 117, 101], .agg #[.int .u8 4, .int .i64 1, .string ⟨#[]⟩])] ++ [([102, 97, 108, 115, 101], .agg #[.int .u8 4, .int .i64 0, .string ⟨#[]⟩])] ++ [([110, 117, 108, 108], .agg #[.int .u8 0, .int .i64 0, .string ⟨#[]⟩])] = litT from rfl, look_litT] at hlk
  have hO : Only [w.heap.size + 1] M0 M3 := ((o1.trans o2).trans o3)
  have hB3 : Below w.heap.size w M3 := below_only (hb0.trans (ha.mono (by omega))) hO (by simp) (by omega)
  have hx3 : M3.heap[w.heap.size]? = some (.cells #[.int .u8 0, .int .i64 0, .string ⟨#[]⟩] 32 (0, 0)) := (hO.block _ (by omega) (by simp)).trans ((ha.block _ (by omega)).trans hbx)
  have HW0 := hide hW0
  have HB3 := hide hB3
  have Hx3 := hide hx3
  have Hlk := hide hlk
  have hlt := lt_of_heap hx3
  have hmm := @run_makeMap Tryz.prog
  clear hW0 hb0 hbx ha hm0 m0 m1 m2 m3 o1 z1 o2 z2 o3 z3 hO hB3 hx3 hlk
  go_enter Tryz.func104, Tryz.ntmps104
  go_upto_region 1 with fail
  rw [HW0.out]
  clear HW0
  cases hl : litL s with
  | none =>
    have hlk := Hlk.out
    rw [hl] at hlk
    simp only [Option.map_none, looked] at hlk
    obtain ⟨f0, f1, f2⟩ := cells3 Hx3.out
    have Hl := hide hl
    clear hl Hlk
    go_wp2_with fail
    refine bodyPost_ret (v := .tuple #[.agg #[.int .u8 0, .int .i64 0, .string ⟨#[]⟩], .bool false]) (by simp [results, Tryz.results104, go_sem, *]) rfl ?_
    refine ⟨by rw [Hl.out]; rfl, ?_⟩
    exact (((HB3.out.setCell (Nat.le_refl _) _).setCell (Nat.le_refl _) _).setCell (Nat.le_refl _) _).alloc (by simp; omega) _
  | some v =>
    have hlk := Hlk.out
    rw [hl] at hlk
    simp only [Option.map_some, looked] at hlk
    obtain ⟨vk, vn, vs⟩ := v
    simp only [valV] at hlk
    obtain ⟨f0, f1, f2⟩ := cells3 Hx3.out
    have Hl := hide hl
    clear hl Hlk
    go_wp2_with fail
    refine bodyPost_ret (v := .tuple #[.agg #[.int .u8 vk, .int .i64 vn, .string ⟨vs.toArray⟩], .bool true]) (by simp [results, Tryz.results104, go_sem, *]) rfl ?_
    refine ⟨by rw [Hl.out]; rfl, ?_⟩
    exact (((HB3.out.setCell (Nat.le_refl _) _).setCell (Nat.le_refl _) _).setCell (Nat.le_refl _) _).alloc (by simp; omega) _
def callT : List (List UInt8 × Value) := [([97, 98, 115], .agg #[.int .u8 18, .int .i64 1, .int .i64 1]), ([109, 105, 110], .agg #[.int .u8 19, .int .i64 1, .int .i64 8]), ([109, 97, 120], .agg #[.int .u8 20, .int .i64 1, .int .i64 8]), ([109, 111, 100], .agg #[.int .u8 21, .int .i64 2, .int .i64 2]), ([108, 101, 110, 103, 116, 104], .agg #[.int .u8 22, .int .i64 1, .int .i64 1]), ([117, 112, 112, 101, 114], .agg #[.int .u8 23, .int .i64 1, .int .i64 1]), ([99, 111, 110, 116, 97, 105, 110, 115], .agg #[.int .u8 24, .int .i64 2, .int .i64 2]), ([115, 116, 97, 114, 116, 115], .agg #[.int .u8 25, .int .i64 2, .int .i64 2]), ([105, 102], .agg #[.int .u8 26, .int .i64 3, .int .i64 3])]
theorem look_callT (s : List UInt8) : slook callT s = (callL s).map callV := by
  unfold callT callL
  rw [slook_cons, slook_cons, slook_cons, slook_cons, slook_cons, slook_cons, slook_cons, slook_cons, slook_cons, slook_nil]
  repeat' split
  all_goals rfl
set_option maxRecDepth 100000 in
set_option maxHeartbeats 4000000 in
theorem calls_any (s : List UInt8) (w : World) : Calls Tryz.prog 105 #[.string ⟨s.toArray⟩] w fun e w' => e = .returned (.tuple #[callV ((callL s).getD (0, 0, 0)), .bool (callL s).isSome]) ∧ Below w.heap.size w w' := by
  obtain ⟨W0, hW0⟩ : ∃ W0, w.alloc (.cells #[.int .u8 0, .int .i64 0, .int .i64 0] 131) = W0 := ⟨_, rfl⟩
  have hb0 : Below w.heap.size w W0 := by rw [← hW0]; exact (Below.refl w.heap.size w).alloc (Nat.le_refl _) _
  have hbx := heap_alloc0 w (.cells #[.int .u8 0, .int .i64 0, .int .i64 0] 131)
  have hz0 : W0.heap.size = w.heap.size + 1 := by rw [← hW0]; simp
  rw [hW0] at hbx
  have m0 := SMap.new W0
  have ha : Below W0.heap.size W0 (W0.alloc (.map #[] 0)) := (Below.refl _ _).alloc (Nat.le_refl _) _
  have hm0 : (W0.alloc (.map #[] 0)).heap.size = W0.heap.size + 1 := by simp
  obtain ⟨M0, hM0⟩ : ∃ M0, W0.alloc (.map #[] 0) = M0 := ⟨_, rfl⟩
  rw [hM0, hz0] at m0
  rw [hM0] at ha hm0
  obtain ⟨M1, e1, m1, o1, z1⟩ := srun_put (P := Tryz.prog) (t := 170) Tryz.underlying170 Tryz.underlying9 m0 [97, 98, 115] (.agg #[.int .u8 18, .int .i64 1, .int .i64 1]) (by decide)
  obtain ⟨M2, e2, m2, o2, z2⟩ := srun_put (P := Tryz.prog) (t := 170) Tryz.underlying170 Tryz.underlying9 m1 [109, 105, 110] (.agg #[.int .u8 19, .int .i64 1, .int .i64 8]) (by decide)
  obtain ⟨M3, e3, m3, o3, z3⟩ := srun_put (P := Tryz.prog) (t := 170) Tryz.underlying170 Tryz.underlying9 m2 [109, 97, 120] (.agg #[.int .u8 20, .int .i64 1, .int .i64 8]) (by decide)
  obtain ⟨M4, e4, m4, o4, z4⟩ := srun_put (P := Tryz.prog) (t := 170) Tryz.underlying170 Tryz.underlying9 m3 [109, 111, 100] (.agg #[.int .u8 21, .int .i64 2, .int .i64 2]) (by decide)
  obtain ⟨M5, e5, m5, o5, z5⟩ := srun_put (P := Tryz.prog) (t := 170) Tryz.underlying170 Tryz.underlying9 m4 [108, 101, 110, 103, 116, 104] (.agg #[.int .u8 22, .int .i64 1, .int .i64 1]) (by decide)
  obtain ⟨M6, e6, m6, o6, z6⟩ := srun_put (P := Tryz.prog) (t := 170) Tryz.underlying170 Tryz.underlying9 m5 [117, 112, 112, 101, 114] (.agg #[.int .u8 23, .int .i64 1, .int .i64 1]) (by decide)
  obtain ⟨M7, e7, m7, o7, z7⟩ := srun_put (P := Tryz.prog) (t := 170) Tryz.underlying170 Tryz.underlying9 m6 [99, 111, 110, 116, 97, 105, 110, 115] (.agg #[.int .u8 24, .int .i64 2, .int .i64 2]) (by decide)
  obtain ⟨M8, e8, m8, o8, z8⟩ := srun_put (P := Tryz.prog) (t := 170) Tryz.underlying170 Tryz.underlying9 m7 [115, 116, 97, 114, 116, 115] (.agg #[.int .u8 25, .int .i64 2, .int .i64 2]) (by decide)
  obtain ⟨M9, e9, m9, o9, z9⟩ := srun_put (P := Tryz.prog) (t := 170) Tryz.underlying170 Tryz.underlying9 m8 [105, 102] (.agg #[.int .u8 26, .int .i64 3, .int .i64 3]) (by decide)
  have hlk := srun_lookup (P := Tryz.prog) (t := 170) Tryz.underlying170 Tryz.underlying9 m9 (zeroC M9) s
  rw [show ([] : List (List UInt8 × Value)) ++ [([97, 98, 115], .agg #[.int .u8 18, .int .i64 1, .int .i64 1])] ++ [([109, 105, 110], .agg #[.int .u8 19, .int .i64 1, .int .i64 8])] ++ [([109, 97, 120], .agg #[.int .u8 20, .int .i64 1, .int .i64 8])] ++ [([109, 111, 100], .agg #[.int .u8 21, .int .i64 2, .int .i64 2])] ++ [([108, 101, 110, 103, 116, 104], .agg #[.int .u8 22, .int .i64 1, .int .i64 1])] ++ [([117, 112, 112, 101, 114], .agg #[.int .u8 23, .int .i64 1, .int .i64 1])] ++ [([99, 111, 110, 116, 97, 105, 110, 115], .agg #[.int .u8 24, .int .i64 2, .int .i64 2])] ++ [([115, 116, 97, 114, 116, 115], .agg #[.int .u8 25, .int .i64 2, .int .i64 2])] ++ [([105, 102], .agg #[.int .u8 26, .int .i64 3, .int .i64 3])] = callT from rfl, look_callT] at hlk
  have hO : Only [w.heap.size + 1] M0 M9 := ((((((((o1.trans o2).trans o3).trans o4).trans o5).trans o6).trans o7).trans o8).trans o9)
  have hB3 : Below w.heap.size w M9 := below_only (hb0.trans (ha.mono (by omega))) hO (by simp) (by omega)
  have hx3 : M9.heap[w.heap.size]? = some (.cells #[.int .u8 0, .int .i64 0, .int .i64 0] 131 (0, 0)) := (hO.block _ (by omega) (by simp)).trans ((ha.block _ (by omega)).trans hbx)
  have HW0 := hide hW0
  have HB3 := hide hB3
  have Hx3 := hide hx3
  have Hlk := hide hlk
  have hlt := lt_of_heap hx3
  have hmm := @run_makeMap Tryz.prog
  clear hW0 hb0 hbx ha hm0 m0 m1 m2 m3 m4 m5 m6 m7 m8 m9 o1 z1 o2 z2 o3 z3 o4 z4 o5 z5 o6 z6 o7 z7 o8 z8 o9 z9 hO hB3 hx3 hlk
  go_enter Tryz.func105, Tryz.ntmps105
  go_upto_region 1 with fail
  rw [HW0.out]
  clear HW0
  cases hl : callL s with
  | none =>
    have hlk := Hlk.out
    rw [hl] at hlk
    simp only [Option.map_none, looked] at hlk
    obtain ⟨f0, f1, f2⟩ := cells3 Hx3.out
    have Hl := hide hl
    clear hl Hlk
    go_wp2_with fail
    refine bodyPost_ret (v := .tuple #[.agg #[.int .u8 0, .int .i64 0, .int .i64 0], .bool false]) (by simp [results, Tryz.results105, go_sem, *]) rfl ?_
    refine ⟨by rw [Hl.out]; rfl, ?_⟩
    exact (((HB3.out.setCell (Nat.le_refl _) _).setCell (Nat.le_refl _) _).setCell (Nat.le_refl _) _).alloc (by simp; omega) _
  | some v =>
    have hlk := Hlk.out
    rw [hl] at hlk
    simp only [Option.map_some, looked] at hlk
    obtain ⟨c1, c2, c3⟩ := v
    simp only [callV] at hlk
    obtain ⟨f0, f1, f2⟩ := cells3 Hx3.out
    have Hl := hide hl
    clear hl Hlk
    go_wp2_with fail
    refine bodyPost_ret (v := .tuple #[.agg #[.int .u8 c1, .int .i64 (c2 : Int), .int .i64 (c3 : Int)], .bool true]) (by simp [results, Tryz.results105, go_sem, *]) rfl ?_
    refine ⟨by rw [Hl.out]; rfl, ?_⟩
    exact (((HB3.out.setCell (Nat.le_refl _) _).setCell (Nat.le_refl _) _).setCell (Nat.le_refl _) _).alloc (by simp; omega) _
end Go.Proofs.YtkjndabbkfbkaaaGreatDoor
