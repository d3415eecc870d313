/- known of witanlaw26. -/
import Derived.Test.YteealadflekffabCompare
namespace Go.Proofs.Yteealadflekffab
open Go Go.RowKit Go.MapKept Go.Sort Go.Shelf

theorem falls_two (x y : Int) : falls [x, y] = if x ≤ y then [y, x] else [x, y] := by
  unfold falls
  by_cases h : x ≤ y
  · simp [List.mergeSort, List.MergeSort.Internal.splitInTwo, h]
  · simp [List.mergeSort, List.MergeSort.Internal.splitInTwo, h]
theorem falls_one (x : Int) : falls [x] = [x] := by simp [falls]

theorem k1 : ∀ v1 v2, cmpA 1 ⟨0, [3, 5], 0, v1⟩ ⟨0, [4, 4], 0, v2⟩ = -1 := by
  intro v1 v2
  simp [cmpA, recency, vec, falls_two, cmpL, Lib.compareInt]
theorem k2 : ∀ v1 v2, cmpA 2 ⟨0, [3, 5], 0, v1⟩ ⟨0, [4, 4], 0, v2⟩ = 1 := by
  intro v1 v2
  simp [cmpA, recency, vec, falls_two, cmpL, Lib.compareInt]
theorem k3 : ∀ v1 v2, cmpA 3 ⟨0, [5, 3], 0, v1⟩ ⟨0, [5], 0, v2⟩ = -1 := by
  intro v1 v2
  simp [cmpA, recency, vec, falls_two, falls_one, cmpL, Lib.compareInt]
theorem k4 : ∀ v1 v2, cmpA 3 ⟨0, [1, 2], 0, v1⟩ ⟨0, [2, 1], 0, v2⟩ = -1 := by
  intro v1 v2
  simp [cmpA, recency, vec, falls_two, cmpL, Lib.compareInt]

theorem of_any (a : Option Addr) (n c : Nat) (w : World) : Calls Try.prog 17 #[.slice a n c] w fun e w' => e = .returned (.agg #[.int .i64 0, .slice a n c, .int .i64 0]) ∧ Below w.heap.size w w' := by
  go_enter Try.func17, Try.ntmps17
  go_wp2
  refine bodyPost_ret (v := .agg #[.int .i64 0, .slice a n c, .int .i64 0]) (by simp [results, Try.results17, go_sem, *]) rfl ?_
  exact ⟨rfl, (Below.refl w.heap.size w).alloc (Nat.le_refl _) _⟩

theorem nis_one {w : World} {g n c : Nat} {t : TypeId} {cs : List Value} {l : List Int} (h : w.heap[g]? = some (.cells cs.toArray t (0, 0))) (hn : l.length = n) (hl : l.length ≤ 1000000) (hc : cs = l.map (.int .i64)) : NIs w (.slice (some ⟨g, 0, none⟩) n c) l := by
  subst hn
  refine ⟨hl, .inl ⟨g, 0, c, rfl, fun i hi => ?_⟩⟩
  rw [Nat.zero_add]
  exact cellAt h (by simp [hc, hi])

/-- One comparison of two tuples that are made at once. -/
theorem known_walk (w : World) : Calls Try.prog 6 #[] w fun e w' => e = .returned (.bool true) ∧ Below w.heap.size w w' := by
  go_enter Try.func6, Try.ntmps6
  go_wp2_with fail
  have ha0 := (MapKept.heap_alloc w (Obj.cells #[.int .i64 3, .int .i64 5] 3)).1
  have oa0 : Below w.heap.size w (w.alloc (Obj.cells #[.int .i64 3, .int .i64 5] 3)) := (Below.refl w.heap.size w).alloc (Nat.le_refl _) _
  have na0 : NIs (w.alloc (Obj.cells #[.int .i64 3, .int .i64 5] 3)) (.slice (some ⟨w.heap.size, 0, none⟩) 2 2) [3, 5] := nis_one (cs := [.int .i64 3, .int .i64 5]) ha0 rfl (by simp) rfl
  refine (of_any _ _ _ _).mono ?_
  rintro e p0 ⟨rfl, hp0⟩
  have NA0 := hide (na0.below hp0)
  have B := hide (oa0.trans (hp0.mono (by have := oa0.size; omega)))
  clear ha0 oa0 na0 hp0
  go_wp2_with fail
  have hb0 := (MapKept.heap_alloc p0 (Obj.cells #[.int .i64 4, .int .i64 4] 3)).1
  have ob0 : Below w.heap.size w (p0.alloc (Obj.cells #[.int .i64 4, .int .i64 4] 3)) := B.out.alloc B.out.size _
  have nb0 : NIs (p0.alloc (Obj.cells #[.int .i64 4, .int .i64 4] 3)) (.slice (some ⟨p0.heap.size, 0, none⟩) 2 2) [4, 4] := nis_one (cs := [.int .i64 4, .int .i64 4]) hb0 rfl (by simp) rfl
  have na0 := NA0.out.below (((Only.refl [] p0).alloc (Obj.cells #[.int .i64 4, .int .i64 4] 3)).below)
  refine (of_any _ _ _ _).mono ?_
  rintro e q0 ⟨rfl, hq0⟩
  have NB0 := hide (nb0.below hq0)
  have NA0 := hide (na0.below hq0)
  have B := hide (ob0.trans (hq0.mono (by have := ob0.size; omega)))
  clear hb0 ob0 nb0 na0 hq0
  go_wp2_with fail
  have hc0 := compare_any 1 ⟨0, [3, 5], 0, _⟩ ⟨0, [4, 4], 0, _⟩ q0 NA0.out NB0.out
  refine hc0.mono ?_
  clear hc0
  rintro e r0 ⟨rfl, hr0⟩
  rw [k1]
  have B := hide (B.out.trans (hr0.mono B.out.size))
  clear hr0
  go_wp2_with fail
  have ha1 := (MapKept.heap_alloc r0 (Obj.cells #[.int .i64 3, .int .i64 5] 3)).1
  have oa1 : Below w.heap.size w (r0.alloc (Obj.cells #[.int .i64 3, .int .i64 5] 3)) := B.out.alloc B.out.size _
  have na1 : NIs (r0.alloc (Obj.cells #[.int .i64 3, .int .i64 5] 3)) (.slice (some ⟨r0.heap.size, 0, none⟩) 2 2) [3, 5] := nis_one (cs := [.int .i64 3, .int .i64 5]) ha1 rfl (by simp) rfl
  refine (of_any _ _ _ _).mono ?_
  rintro e p1 ⟨rfl, hp1⟩
  have NA1 := hide (na1.below hp1)
  have B := hide (oa1.trans (hp1.mono (by have := oa1.size; omega)))
  clear ha1 oa1 na1 hp1
  go_wp2_with fail
  have hb1 := (MapKept.heap_alloc p1 (Obj.cells #[.int .i64 4, .int .i64 4] 3)).1
  have ob1 : Below w.heap.size w (p1.alloc (Obj.cells #[.int .i64 4, .int .i64 4] 3)) := B.out.alloc B.out.size _
  have nb1 : NIs (p1.alloc (Obj.cells #[.int .i64 4, .int .i64 4] 3)) (.slice (some ⟨p1.heap.size, 0, none⟩) 2 2) [4, 4] := nis_one (cs := [.int .i64 4, .int .i64 4]) hb1 rfl (by simp) rfl
  have na1 := NA1.out.below (((Only.refl [] p1).alloc (Obj.cells #[.int .i64 4, .int .i64 4] 3)).below)
  refine (of_any _ _ _ _).mono ?_
  rintro e q1 ⟨rfl, hq1⟩
  have NB1 := hide (nb1.below hq1)
  have NA1 := hide (na1.below hq1)
  have B := hide (ob1.trans (hq1.mono (by have := ob1.size; omega)))
  clear hb1 ob1 nb1 na1 hq1
  go_wp2_with fail
  have hc1 := compare_any 2 ⟨0, [3, 5], 0, _⟩ ⟨0, [4, 4], 0, _⟩ q1 NA1.out NB1.out
  refine hc1.mono ?_
  clear hc1
  rintro e r1 ⟨rfl, hr1⟩
  rw [k2]
  have B := hide (B.out.trans (hr1.mono B.out.size))
  clear hr1
  go_wp2_with fail
  have ha2 := (MapKept.heap_alloc r1 (Obj.cells #[.int .i64 5, .int .i64 3] 3)).1
  have oa2 : Below w.heap.size w (r1.alloc (Obj.cells #[.int .i64 5, .int .i64 3] 3)) := B.out.alloc B.out.size _
  have na2 : NIs (r1.alloc (Obj.cells #[.int .i64 5, .int .i64 3] 3)) (.slice (some ⟨r1.heap.size, 0, none⟩) 2 2) [5, 3] := nis_one (cs := [.int .i64 5, .int .i64 3]) ha2 rfl (by simp) rfl
  refine (of_any _ _ _ _).mono ?_
  rintro e p2 ⟨rfl, hp2⟩
  have NA2 := hide (na2.below hp2)
  have B := hide (oa2.trans (hp2.mono (by have := oa2.size; omega)))
  clear ha2 oa2 na2 hp2
  go_wp2_with fail
  have hb2 := (MapKept.heap_alloc p2 (Obj.cells #[.int .i64 5] 3)).1
  have ob2 : Below w.heap.size w (p2.alloc (Obj.cells #[.int .i64 5] 3)) := B.out.alloc B.out.size _
  have nb2 : NIs (p2.alloc (Obj.cells #[.int .i64 5] 3)) (.slice (some ⟨p2.heap.size, 0, none⟩) 1 1) [5] := nis_one (cs := [.int .i64 5]) hb2 rfl (by simp) rfl
  have na2 := NA2.out.below (((Only.refl [] p2).alloc (Obj.cells #[.int .i64 5] 3)).below)
  refine (of_any _ _ _ _).mono ?_
  rintro e q2 ⟨rfl, hq2⟩
  have NB2 := hide (nb2.below hq2)
  have NA2 := hide (na2.below hq2)
  have B := hide (ob2.trans (hq2.mono (by have := ob2.size; omega)))
  clear hb2 ob2 nb2 na2 hq2
  go_wp2_with fail
  have hc2 := compare_any 3 ⟨0, [5, 3], 0, _⟩ ⟨0, [5], 0, _⟩ q2 NA2.out NB2.out
  refine hc2.mono ?_
  clear hc2
  rintro e r2 ⟨rfl, hr2⟩
  rw [k3]
  have B := hide (B.out.trans (hr2.mono B.out.size))
  clear hr2
  go_wp2_with fail
  have ha3 := (MapKept.heap_alloc r2 (Obj.cells #[.int .i64 1, .int .i64 2] 3)).1
  have oa3 : Below w.heap.size w (r2.alloc (Obj.cells #[.int .i64 1, .int .i64 2] 3)) := B.out.alloc B.out.size _
  have na3 : NIs (r2.alloc (Obj.cells #[.int .i64 1, .int .i64 2] 3)) (.slice (some ⟨r2.heap.size, 0, none⟩) 2 2) [1, 2] := nis_one (cs := [.int .i64 1, .int .i64 2]) ha3 rfl (by simp) rfl
  refine (of_any _ _ _ _).mono ?_
  rintro e p3 ⟨rfl, hp3⟩
  have NA3 := hide (na3.below hp3)
  have B := hide (oa3.trans (hp3.mono (by have := oa3.size; omega)))
  clear ha3 oa3 na3 hp3
  go_wp2_with fail
  have hb3 := (MapKept.heap_alloc p3 (Obj.cells #[.int .i64 2, .int .i64 1] 3)).1
  have ob3 : Below w.heap.size w (p3.alloc (Obj.cells #[.int .i64 2, .int .i64 1] 3)) := B.out.alloc B.out.size _
  have nb3 : NIs (p3.alloc (Obj.cells #[.int .i64 2, .int .i64 1] 3)) (.slice (some ⟨p3.heap.size, 0, none⟩) 2 2) [2, 1] := nis_one (cs := [.int .i64 2, .int .i64 1]) hb3 rfl (by simp) rfl
  have na3 := NA3.out.below (((Only.refl [] p3).alloc (Obj.cells #[.int .i64 2, .int .i64 1] 3)).below)
  refine (of_any _ _ _ _).mono ?_
  rintro e q3 ⟨rfl, hq3⟩
  have NB3 := hide (nb3.below hq3)
  have NA3 := hide (na3.below hq3)
  have B := hide (ob3.trans (hq3.mono (by have := ob3.size; omega)))
  clear hb3 ob3 nb3 na3 hq3
  go_wp2_with fail
  have hc3 := compare_any 3 ⟨0, [1, 2], 0, _⟩ ⟨0, [2, 1], 0, _⟩ q3 NA3.out NB3.out
  refine hc3.mono ?_
  clear hc3
  rintro e r3 ⟨rfl, hr3⟩
  rw [k4]
  have B := hide (B.out.trans (hr3.mono B.out.size))
  clear hr3
  go_wp2
  go_ret
  exact ⟨rfl, B.out⟩
end Go.Proofs.Yteealadflekffab
