/- vtext: word, the readers. -/
import Derived.Test.YtkjndabbkfbkaaaGreatDoorVt4
namespace Go.Proofs.YtkjndabbkfbkaaaGreatDoor
open Go Go.RowKit Go.Lib Go.Sort Go.Shelf

/-- What a reader answers. -/
def RdPost (w : World) (r : Except Int (Int × Int × List UInt8)) (e : Ending) (w' : World) : Prop :=
  Below w.heap.size w w' ∧ match r with
    | .ok p => e = .returned (.tuple #[.agg #[.int .u8 p.1, .int .i64 p.2.1, .string ⟨p.2.2.toArray⟩], .int .i64 0])
    | .error q => ∃ k n s, e = .returned (.tuple #[.agg #[.int .u8 k, .int .i64 n, .string s], .int .i64 q])
def wordP (l : List UInt8) : Except Int (Int × Int × List UInt8) :=
  if l = [116, 114, 117, 101] then .ok (4, 1, []) else if l = [102, 97, 108, 115, 101] then .ok (4, 0, []) else if l = [110, 117, 108, 108] then .ok (0, 0, []) else .error 4
theorem truth_any (b : Bool) (w : World) : Calls Tryz.prog 174 #[.bool b] w fun e w' => e = .returned (.agg #[.int .u8 4, .int .i64 (if b then 1 else 0), .string ⟨#[]⟩]) ∧ Below w.heap.size w w' := by
  cases b
  all_goals
    go_enter Tryz.func174, Tryz.ntmps174
    go_wp2
  · refine bodyPost_ret (v := .agg #[.int .u8 4, .int .i64 0, .string ⟨#[]⟩]) (by simp [results, Tryz.results174, go_sem]) rfl ⟨rfl, ?_⟩
    exact (Below.refl _ _).alloc (Nat.le_refl _) _
  · refine bodyPost_ret (v := .agg #[.int .u8 4, .int .i64 1, .string ⟨#[]⟩]) (by simp [results, Tryz.results174, go_sem]) rfl ⟨rfl, ?_⟩
    exact (Below.refl _ _).alloc (Nat.le_refl _) _

set_option maxRecDepth 100000 in
set_option maxHeartbeats 1000000 in
theorem word_any (s : ByteArray) (w : World) : Calls Tryz.prog 151 #[.string s] w (RdPost w (wordP (dl s))) := by
  obtain ⟨W0, hW0⟩ : ∃ W0, w.alloc (.cells #[.int .u8 0, .int .i64 0, .string ⟨#[]⟩] 32) = W0 := ⟨_, rfl⟩
  have hb0 : Below w.heap.size w W0 := by rw [← hW0]; exact (Below.refl w.heap.size w).alloc (Nat.le_refl _) _
  have hbx := (MapKept.heap_alloc w (.cells #[.int .u8 0, .int .i64 0, .string ⟨#[]⟩] 32)).1
  have hz0 : W0.heap.size = w.heap.size + 1 := by rw [← hW0]; simp
  rw [hW0] at hbx
  have HC : Hid (∀ V, Below W0.heap.size W0 V → V.cell? ⟨w.heap.size, 0, none⟩ = some (.int .u8 0) ∧ V.cell? ⟨w.heap.size, 1, none⟩ = some (.int .i64 0) ∧ V.cell? ⟨w.heap.size, 2, none⟩ = some (.string ⟨#[]⟩) ∧ (∀ i, V.frozen? ⟨w.heap.size, i, none⟩ = false) ∧ Below w.heap.size w V) := hide fun V hV => by
    have hb := (hV.block w.heap.size (by omega)).trans hbx
    exact ⟨by simp [World.cell?, hb], by simp [World.cell?, hb], by simp [World.cell?, hb], fun i => by simp [World.frozen?, hb], hb0.trans (hV.mono (by omega))⟩
  have HW0 := hide hW0
  clear hW0 hb0 hbx hz0
  have H0 := HC.out W0 (Below.refl _ _)
  by_cases h1 : dl s = [116, 114, 117, 101]
  · have e : s = ⟨#[116, 114, 117, 101]⟩ := dl_inj h1
    subst e
    have Ht := hide (truth_any true W0)
    clear h1 H0
    go_enter Tryz.func151, Tryz.ntmps151
    go_upto_region 1 with fail
    rw [HW0.out]
    go_wp2_with fail
    (with_reducible refine Ht.out.mono ?_)
    rintro e V ⟨rfl, hb⟩
    obtain ⟨a0, a1, a2, f0, hB⟩ := HC.out V hb
    have HB := hide hB
    clear hb hB Ht HC
    go_wp2
    refine bodyPost_ret (v := .tuple #[.agg #[.int .u8 4, .int .i64 1, .string ⟨#[]⟩], .int .i64 0]) (by simp [results, Tryz.results151, go_sem, *]) rfl ?_
    exact ⟨((HB.out.setCell (by simp) _).setCell (by simp) _).setCell (by simp) _, rfl⟩
  by_cases h2 : dl s = [102, 97, 108, 115, 101]
  · have e : s = ⟨#[102, 97, 108, 115, 101]⟩ := dl_inj h2
    subst e
    have Ht := hide (truth_any false W0)
    clear h1 h2 H0
    go_enter Tryz.func151, Tryz.ntmps151
    go_upto_region 1 with fail
    rw [HW0.out]
    go_wp2_with fail
    (with_reducible refine Ht.out.mono ?_)
    rintro e V ⟨rfl, hb⟩
    obtain ⟨a0, a1, a2, f0, hB⟩ := HC.out V hb
    have HB := hide hB
    clear hb hB Ht HC
    go_wp2
    refine bodyPost_ret (v := .tuple #[.agg #[.int .u8 4, .int .i64 0, .string ⟨#[]⟩], .int .i64 0]) (by simp [results, Tryz.results151, go_sem, *]) rfl ?_
    exact ⟨((HB.out.setCell (by simp) _).setCell (by simp) _).setCell (by simp) _, rfl⟩
  by_cases h3 : dl s = [110, 117, 108, 108]
  · have e : s = ⟨#[110, 117, 108, 108]⟩ := dl_inj h3
    subst e
    obtain ⟨a0, a1, a2, f0, hB⟩ := H0
    have HB := hide hB
    clear h1 h2 h3 hB HC
    go_enter Tryz.func151, Tryz.ntmps151
    go_upto_region 1 with fail
    rw [HW0.out]
    go_wp2
    refine bodyPost_ret (v := .tuple #[.agg #[.int .u8 0, .int .i64 0, .string ⟨#[]⟩], .int .i64 0]) (by simp [results, Tryz.results151, go_sem, *]) rfl ?_
    exact ⟨((HB.out.setCell (by simp) _).setCell (by simp) _).setCell (by simp) _, rfl⟩
  · have hw : wordP (dl s) = .error 4 := by unfold wordP; rw [if_neg h1, if_neg h2, if_neg h3]
    have t1 : (s.toList == [116, 114, 117, 101]) = false := by rw [toList_dl]; simpa using h1
    have t2 : (s.toList == [102, 97, 108, 115, 101]) = false := by rw [toList_dl]; simpa using h2
    have t3 : (s.toList == [110, 117, 108, 108]) = false := by rw [toList_dl]; simpa using h3
    obtain ⟨a0, a1, a2, f0, hB⟩ := H0
    have HB := hide hB
    have Hw := hide hw
    clear h1 h2 h3 hB HC hw
    go_enter Tryz.func151, Tryz.ntmps151
    go_upto_region 1 with fail
    rw [HW0.out]
    go_wp2
    refine bodyPost_ret (v := .tuple #[.agg #[.int .u8 0, .int .i64 0, .string ⟨#[]⟩], .int .i64 4]) (by simp [results, Tryz.results151, go_sem, *]) rfl ?_
    rw [Hw.out]
    exact ⟨((HB.out.setCell (by simp) _).setCell (by simp) _).setCell (by simp) _, _, _, _, rfl⟩

theorem name_any (s : ByteArray) (w : World) (h1 : 1 ≤ s.size) (hs : s.size ≤ 402) : Calls Tryz.prog 149 #[.string s] w fun e w' => e = .returned (.tuple #[.agg #[.int .u8 5, .int .i64 0, .string ⟨(dl s).tail.toArray⟩], .int .i64 0]) ∧ Below w.heap.size w w' := by
  have i1 : (1 : Int) ≤ (s.size : Int) := by omega
  have he : (⟨(dl s).tail.toArray⟩ : ByteArray) = s.extract 1 s.size := dl_inj (by rw [dl_mk, dl_ext_end, List.drop_one])
  rw [he]
  clear he
  go_enter Tryz.func149, Tryz.ntmps149
  go_wp2
  refine bodyPost_ret (v := .tuple #[.agg #[.int .u8 5, .int .i64 0, .string (s.extract 1 s.size)], .int .i64 0]) (by simp [results, Tryz.results149, go_sem]) rfl ⟨rfl, ?_⟩
  exact (Below.refl _ _).alloc (Nat.le_refl _) _

/-- The readers. -/
def rdrs : List (Int × Value) := [(34, .agg #[.func (.func 150) #[] #[]]), (35, .agg #[.func (.func 149) #[] #[]]), (116, .agg #[.func (.func 151) #[] #[]]), (102, .agg #[.func (.func 151) #[] #[]]), (110, .agg #[.func (.func 151) #[] #[]])]
set_option maxRecDepth 100000 in
theorem readers_any (w : World) : Calls Tryz.prog 130 #[] w fun e w' => ∃ b, e = .returned (.map (some b)) ∧ KMap .u8 w' b rdrs ∧ Below w.heap.size w w' := by
  have hmm := @run_makeMap Tryz.prog
  have m0 : KMap .u8 (w.alloc (.map #[] 0)) w.heap.size [] := KMap.new w
  obtain ⟨w1, r1, m1, o1, z1⟩ := run_mapUpdate (P := Tryz.prog) (t := 165) Tryz.underlying165 Tryz.underlying5 m0 34 (.agg #[.func (.func 150) #[] #[]])
  obtain ⟨w2, r2, m2, o2, z2⟩ := run_mapUpdate (P := Tryz.prog) (t := 165) Tryz.underlying165 Tryz.underlying5 m1 35 (.agg #[.func (.func 149) #[] #[]])
  obtain ⟨w3, r3, m3, o3, z3⟩ := run_mapUpdate (P := Tryz.prog) (t := 165) Tryz.underlying165 Tryz.underlying5 m2 116 (.agg #[.func (.func 151) #[] #[]])
  obtain ⟨w4, r4, m4, o4, z4⟩ := run_mapUpdate (P := Tryz.prog) (t := 165) Tryz.underlying165 Tryz.underlying5 m3 102 (.agg #[.func (.func 151) #[] #[]])
  obtain ⟨w5, r5, m5, o5, z5⟩ := run_mapUpdate (P := Tryz.prog) (t := 165) Tryz.underlying165 Tryz.underlying5 m4 110 (.agg #[.func (.func 151) #[] #[]])
  have HM : Hid (KMap .u8 w5 w.heap.size rdrs) := hide m5
  have HB : Hid (Below w.heap.size w w5) := hide (((((((Only.refl [] w).alloc (.map #[] 0)).step o1 (by simp)).step o2 (by simp)).step o3 (by simp)).step o4 (by simp)).step o5 (by simp)).below
  clear m0 m1 m2 m3 m4 m5 o1 o2 o3 o4 o5 z1 z2 z3 z4 z5
  go_enter Tryz.func130, Tryz.ntmps130
  go_wp2
  go_ret
  exact ⟨_, rfl, HM.out, HB.out⟩
end Go.Proofs.YtkjndabbkfbkaaaGreatDoor
