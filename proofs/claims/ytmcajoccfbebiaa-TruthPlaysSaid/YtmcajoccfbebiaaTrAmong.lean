/- witanlaw29's among. -/
import Derived.Test.YtmcajoccfbebiaaTrLaw
namespace Go.Proofs.Ytmcajoccfbebiaa
open Go Go.RowKit Go.MapKept Go.Sort

def amongB (a b : List Int) : Bool := a.all fun x => b.any fun y => y == x
theorem amongB_true {a b : List Int} (h : ∀ x ∈ a, x ∈ b) : amongB a b = true := List.all_eq_true.2 fun x hx => List.any_eq_true.2 ⟨x, h x hx, by simp⟩

set_option maxHeartbeats 4000000 in
theorem among_any (x y : Value) (a b : List Int) (w : World) (hx : NIs w x a) (hy : NIs w y b) :
    Calls Try.prog 44 #[x, y] w fun e w' => e = .returned (.bool (amongB a b)) ∧ Below w.heap.size w w' := by
  obtain ⟨xa, xc, rfl⟩ := hx.form
  obtain ⟨ya, yc, rfl⟩ := hy.form
  have hxl := hx.1
  have hyl := hy.1
  have hmm := @run_makeMap Try.prog
  have hb1 : Below w.heap.size w (w.alloc (.map #[] 0)) := ((Only.refl [] w).alloc _).below
  have Hx := hide (hx.below hb1)
  have Hy := hide (hy.below hb1)
  have Hm := hide (Marks.new w)
  have Hb1 := hide hb1
  clear hx hy hb1
  go_enter Try.func44, Try.ntmps44
  go_wp2
  go_loopw [7, 13] (fun _ vi wr => ∃ k : Nat, k ≤ b.length ∧ vi = .int .i64 k ∧ Hid (∃ lin, Marks wr w.heap.size lin (fun x => (b.take k).any fun y => y == x) ∧ KeepsCells (w.alloc (.map #[] 0)) wr ∧ Below w.heap.size w wr)) (fun _ vi _ => b.length - (intOf vi).toNat)
  case atStart => exact ⟨0, Nat.zero_le _, rfl, [], Hm.out.congr (fun x => by simp), fun _ _ h => h, Hb1.out⟩
  case round =>
    obtain ⟨k, hk, rfl, hq⟩ := hrel
    obtain ⟨lin, hmk, hkc, hbw⟩ := hq.out
    by_cases hlk : k < b.length
    · obtain ⟨ga, off, cap, e, c0⟩ := nis_at (Hy.out.keeps hkc) hlk
      injection e with e1 e2 e3
      subst e1 e3
      clear e2
      obtain ⟨wu, hrun, hmu, hou, hzu⟩ := run_mapUpdate (P := Try.prog) (t := 28) Try.underlying28 Try.underlying3 hmk.map b[k] (.int .i64 1)
      have hbu : Below w.heap.size w wu := below_only hbw hou (fun i hi => by simp only [List.mem_singleton] at hi; omega) hbw.size
      have Hmk := hide ((hmk.put hmu).congr (T := fun x => (b.take (k + 1)).any fun y => y == x) (fun x => by rw [List.take_succ_eq_append_getElem hlk, List.any_append]; simp))
      have Hkc := hide (hkc.trans (KeepsCells.map hmk.map hou))
      have Hbu := hide hbu
      obtain ⟨z, hz⟩ : ∃ z, b[k] = z := ⟨_, rfl⟩
      rw [hz] at c0 hrun Hmk
      clear hmk hkc hbw hmu hou hzu hbu hz hq
      go_wp2
      go_roundw
      case rel => exact ⟨k + 1, by omega, by go_num, _, Hmk.out, Hkc.out, Hbu.out⟩
      case measure => simp [intOf]; omega
    · obtain rfl : k = b.length := by omega
      rw [List.take_length] at hmk
      obtain ⟨w2, rfl⟩ : ∃ w2 : World, w2 = wr := ⟨_, rfl⟩
      have Hmk := hide hmk
      have Hx2 := hide (Hx.out.keeps hkc)
      have Hbw := hide hbw
      clear hq hmk hkc hbw Hx Hy Hm Hb1
      go_wp2_with fail
      go_loopw [9, 22] (fun _ vi wr => ∃ k : Nat, k ≤ a.length ∧ vi = .int .i64 k ∧ Hid ((a.take k).all (fun x => b.any fun y => y == x) = true ∧ w2 = wr)) (fun _ vi _ => a.length - (intOf vi).toNat)
      case atStart => exact ⟨0, Nat.zero_le _, rfl, by simp, rfl⟩
      case round =>
        obtain ⟨k, hk, rfl, hq⟩ := hrel
        obtain ⟨hal, rfl⟩ := hq.out
        by_cases hlk : k < a.length
        · obtain ⟨ga, off, cap, e, c0⟩ := nis_at Hx2.out hlk
          injection e with e1 e2 e3
          subst e1 e3
          clear e2
          have hgl := run_lookup1 (P := Try.prog) (t := 28) Try.underlying28 Try.underlying3 Hmk.out.map (int_zero _) a[k]
          rw [Hmk.out.look] at hgl
          have hst : (a.take (k + 1)).all (fun x => b.any fun y => y == x) = ((a.take k).all (fun x => b.any fun y => y == x) && b.any fun y => y == a[k]) := by
            rw [List.take_succ_eq_append_getElem hlk, List.all_append]
            simp
          have hno : (b.any fun y => y == a[k]) = false → amongB a b = false := fun h => by
            unfold amongB
            rw [List.all_eq_false]
            exact ⟨a[k], List.getElem_mem hlk, by simp [h]⟩
          rw [hal] at hst
          obtain ⟨z, hz⟩ : ∃ z, a[k] = z := ⟨_, rfl⟩
          rw [hz] at c0 hgl hst hno
          obtain ⟨T, hT⟩ : ∃ T, (b.any fun y => y == z) = T := ⟨_, rfl⟩
          rw [hT] at hgl hst hno
          have Hst := hide hst
          have Hno := hide hno
          clear hst hno hT hz hal hq
          cases T
          · simp only [Bool.false_eq_true, if_false] at hgl
            go_wp2
            go_ret
            exact ⟨by rw [Hno.out trivial]; rfl, Hbw.out⟩
          · simp only [if_true] at hgl
            go_wp2
            go_roundw
            case rel => exact ⟨k + 1, by omega, by go_num, Hst.out, by trivial⟩
            case measure => simp [intOf]; omega
        · obtain rfl : k = a.length := by omega
          rw [List.take_length] at hal
          have Hal := hide hal
          clear hal hq
          go_wp2
          go_ret
          exact ⟨by unfold amongB; rw [Hal.out]; rfl, Hbw.out⟩
end Go.Proofs.Ytmcajoccfbebiaa
