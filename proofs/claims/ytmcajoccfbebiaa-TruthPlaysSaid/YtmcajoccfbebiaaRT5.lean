/- witanref29's taken. -/
import Derived.Test.YtmcajoccfbebiaaRT4
namespace Go.Proofs.Ytmcajoccfbebiaa
open Go Go.RowKit Go.MapKept Go.Sort

def takenB (p : Sp) (set : List Int) : Bool := p.plain || p.js.any fun j => j.tup.all fun x => set.any fun y => y == x

set_option maxRecDepth 100000 in
set_option maxHeartbeats 4000000 in
theorem rtaken_any (p : Sp) (sv : Value) (set : List Int) (w : World) (hj : JsIs w p.v p.js) (hs : NIs w sv set) :
    Calls Try.prog 76 #[.agg #[.int .i64 p.id, .bool p.plain, p.v], sv] w fun e w' => e = .returned (.bool (takenB p set)) ∧ Below w.heap.size w w' := by
  obtain ⟨pid, pp, js, pv⟩ := p
  simp only at hj ⊢
  obtain ⟨ja, jc, rfl⟩ := hj.form
  obtain ⟨sa, sc, rfl⟩ := hs.form
  have hjl := hj.len
  obtain ⟨W0, hW0⟩ : ∃ W0, w.alloc (Obj.cells #[.int .i64 pid, .bool pp, .slice ja js.length jc] 111) = W0 := ⟨_, rfl⟩
  have hb0 : Below w.heap.size w W0 := by rw [← hW0]; exact ((Only.refl [] w).alloc _).below
  have hx0 := heap_alloc0 w (Obj.cells #[.int .i64 pid, .bool pp, .slice ja js.length jc] 111)
  rw [hW0] at hx0
  have x1 : W0.cell? ⟨w.heap.size, 1, none⟩ = some (.bool pp) := cellAt (i := 1) hx0 rfl
  have x2 : W0.cell? ⟨w.heap.size, 2, none⟩ = some (.slice ja js.length jc) := cellAt (i := 2) hx0 rfl
  have HW0 := hide hW0
  have Hb0 := hide hb0
  have Hj := hide (hj.keeps (KeepsCells.below hb0))
  have Hs := hide (hs.below hb0)
  clear hj hs hb0 hx0 hW0
  go_enter Try.func76, Try.ntmps76
  go_upto_region 1 with fail
  rw [HW0.out]
  cases pp with
  | true =>
    go_wp2
    go_ret
    exact ⟨rfl, Hb0.out⟩
  | false =>
    go_wp2
    go_loopw [5] (fun vi wr => ∃ k : Nat, k ≤ js.length ∧ vi = .int .i64 k ∧ Hid ((js.take k).any (fun j => j.tup.all fun x => set.any fun y => y == x) = false ∧ W0 = wr)) (fun vi _ => js.length - (intOf vi).toNat)
    case atStart => exact ⟨0, Nat.zero_le _, rfl, by simp, rfl⟩
    case round =>
      obtain ⟨k, hk, rfl, hq⟩ := hrel
      obtain ⟨hno, rfl⟩ := hq.out
      by_cases hlk : k < js.length
      · obtain ⟨g, off, cap, ta, tc, e, hx, d0, d1⟩ := Hj.out.at hlk
        injection e with e1 e2 e3
        subst e1 e3
        clear e2
        have hn := Hj.out.tups _ (List.getElem_mem hlk)
        have hst : (js.take (k + 1)).any (fun j => j.tup.all fun x => set.any fun y => y == x) = js[k].tup.all fun x => set.any fun y => y == x := by
          rw [List.take_succ_eq_append_getElem hlk, List.any_append, hno]
          simp
        have hyes : (js[k].tup.all fun x => set.any fun y => y == x) = true → (js.any fun j => j.tup.all fun x => set.any fun y => y == x) = true := fun h => List.any_eq_true.2 ⟨js[k], List.getElem_mem hlk, h⟩
        rw [hx] at hn
        obtain ⟨t, ht⟩ : ∃ t, js[k].tup = t := ⟨_, rfl⟩
        rw [ht] at hn d1 hst hyes
        have htl := hn.1
        have Hn := hide hn
        have Hst := hide hst
        have Hyes := hide hyes
        clear hno hq hn hst hyes ht hx d0
        have hk0 : (0 : Int) ≤ (k : Int) := by omega
        have hki : (k : Int) < (js.length : Int) := by omega
        go_wp2_with fail
        go_loopw [6, 7] (fun va vi wr => ∃ q : Nat, q ≤ t.length ∧ vi = .int .i64 q ∧ va = .bool ((t.take q).all fun x => set.any fun y => y == x) ∧ Hid (W0 = wr)) (fun _ vi _ => t.length - (intOf vi).toNat)
        case atStart => exact ⟨0, Nat.zero_le _, rfl, by simp, rfl⟩
        case round =>
          obtain ⟨q, hq, rfl, rfl, hw⟩ := hrel
          obtain rfl := hw.out
          by_cases hlq : q < t.length
          · obtain ⟨g2, off2, cap2, e, f0⟩ := nis_at Hn.out hlq
            injection e with e1 e2 e3
            subst e1 e3
            clear e2
            have hst2 : (t.take (q + 1)).all (fun x => set.any fun y => y == x) = ((t.take q).all (fun x => set.any fun y => y == x) && set.any fun y => y == t[q]) := by
              rw [List.take_succ_eq_append_getElem hlq, List.all_append]
              simp
            obtain ⟨z, hz⟩ : ∃ z, t[q] = z := ⟨_, rfl⟩
            rw [hz] at f0 hst2
            have Hin := hide (rin_any _ set z W0 Hs.out)
            obtain ⟨A, hA⟩ : ∃ A, ((t.take q).all fun x => set.any fun y => y == x) = A := ⟨_, rfl⟩
            rw [hA] at hst2
            rw [hA]
            have Hst2 := hide hst2
            clear hst2 hz hA hw
            cases A
            · go_wp2
              go_roundw
              case rel => exact ⟨q + 1, by omega, by go_num, by rw [Hst2.out]; rfl, by trivial⟩
              case measure => simp [intOf]; omega
            · go_wp2_with fail
              (with_reducible refine Hin.out.mono ?_)
              rintro e w' ⟨rfl, rfl⟩
              go_wp2
              go_roundw
              case rel => exact ⟨q + 1, by omega, by go_num, by rw [Hst2.out]; simp, by trivial⟩
              case measure => simp [intOf]; omega
          · obtain rfl : q = t.length := by omega
            rw [List.take_length]
            obtain ⟨C, hC⟩ : ∃ C, (t.all fun x => set.any fun y => y == x) = C := ⟨_, rfl⟩
            rw [hC] at Hst Hyes ⊢
            clear hC hw
            cases C
            · go_wp2
              go_roundw
              case rel => exact ⟨k + 1, by omega, by go_num, Hst.out, by trivial⟩
              case measure => simp [intOf]; omega
            · go_wp2
              go_ret
              exact ⟨by unfold takenB; rw [Hyes.out trivial]; rfl, Hb0.out⟩
      · obtain rfl : k = js.length := by omega
        rw [List.take_length] at hno
        have Hno := hide hno
        clear hno hq
        go_wp2
        go_ret
        exact ⟨by unfold takenB; simp only [Bool.false_or]; rw [Hno.out]; rfl, Hb0.out⟩
end Go.Proofs.Ytmcajoccfbebiaa
