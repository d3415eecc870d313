/- slices.SortFunc over justifications, by rule and tuple. -/
import Derived.Test.YtmcajoccfbebiaaTr6
import Derived.Test.YtmcajoccfbebiaaSortF
import Derived.Test.YtmcajoccfbebiaaLawN
import Derived.Shelf.SlSortCmp.WholeK
namespace Go.Proofs.Ytmcajoccfbebiaa
open Go Go.RowKit Go.MapKept Go.Sort

/-- Which of two justifications is ahead. -/
def cmpJ (a b : Jc) : Int := andThen (fun a b : Jc => Lib.compareInt a.rule b.rule) (fun a b : Jc => cmpL a.tup b.tup) a b
theorem cmp_just : Cmp cmpJ := Cmp.andThen (cmp_int.on Jc.rule) (cmp_list.on Jc.tup)
theorem cmpJ_zero (a b : Jc) : cmpJ a b = 0 ↔ a.co = b.co := by
  unfold cmpJ andThen Jc.co
  by_cases h : Lib.compareInt a.rule b.rule = 0
  · rw [if_neg (by simpa using h), cmpL_zero, Prod.mk.injEq]
    have := (compareInt_zero _ _).1 h
    simp [this]
  · rw [if_pos h]
    have h2 : a.rule ≠ b.rule := fun e => h ((compareInt_zero _ _).2 e)
    simp [h, h2]
theorem cmpJ_co {a b c d : Jc} (h1 : a.co = c.co) (h2 : b.co = d.co) : cmpJ a b = cmpJ c d := by
  unfold Jc.co at h1 h2
  injection h1 with e1 e2
  injection h2 with e3 e4
  unfold cmpJ andThen
  simp only [e1, e2, e3, e4]

set_option maxHeartbeats 400000 in
theorem or_two (g : Nat) (x y : Int) (w : World) (h0 : w.cell? ⟨g, 0, none⟩ = some (.int .i64 x)) (h1 : w.cell? ⟨g, 1, none⟩ = some (.int .i64 y)) :
    Calls Try.prog 67 #[.slice (some ⟨g, 0, none⟩) 2 2] w fun e w' => e = .returned (.int .i64 (if x ≠ 0 then x else y)) ∧ w' = w := by
  by_cases hx : x = 0
  · subst hx
    by_cases hy : y = 0
    · subst hy
      go_enter Try.func67, Try.ntmps67
      go_wp2
      refine wp_loop_rounds 3 ?_
      rw [rounds_succ]
      go_wp2
      rw [rounds_succ]
      go_wp2
      rw [rounds_succ]
      go_wp2
      go_ret
      exact ⟨by simp, rfl⟩
    · have hy2 : (y == 0) = false := by simpa using hy
      have hy3 : (y != 0) = true := by simpa using hy
      have Hy := hide hy
      clear hy
      go_enter Try.func67, Try.ntmps67
      go_wp2
      refine wp_loop_rounds 2 ?_
      rw [rounds_succ]
      go_wp2
      rw [rounds_succ]
      go_wp2
      go_ret
      exact ⟨by simp, rfl⟩
  · have hx2 : (x == 0) = false := by simpa using hx
    have hx3 : (x != 0) = true := by simpa using hx
    have Hx := hide hx
    clear hx
    go_enter Try.func67, Try.ntmps67
    go_wp2
    refine wp_loop_rounds 1 ?_
    rw [rounds_succ]
    go_wp2
    go_ret
    exact ⟨rfl, rfl⟩

set_option maxRecDepth 100000 in
set_option maxHeartbeats 1000000 in
theorem of1_any (a b : Jc) (w : World) (ha : NIs w a.x a.tup) (hb : NIs w b.x b.tup) :
    Calls Try.prog 66 #[a.val, b.val] w fun e w' => e = .returned (.int .i64 (cmpJ a b)) ∧ ∃ q os', w' = grow (w.drewN q) os' := by
  obtain ⟨ra, l, xa⟩ := a
  obtain ⟨rb, m, xb⟩ := b
  simp only at ha hb
  obtain ⟨xaa, xac, rfl⟩ := ha.form
  obtain ⟨xba, xbc, rfl⟩ := hb.form
  obtain ⟨W, hW⟩ : ∃ W, (w.alloc (Obj.cells #[.int .i64 ra, .slice xaa l.length xac] 53)).alloc (Obj.cells #[.int .i64 rb, .slice xba m.length xbc] 53) = W := ⟨_, rfl⟩
  have hbW : Below w.heap.size w W := by rw [← hW]; exact (((Only.refl [] w).alloc _).alloc _).below
  have h1 := heap_alloc2_old w (Obj.cells #[.int .i64 ra, .slice xaa l.length xac] 53) (Obj.cells #[.int .i64 rb, .slice xba m.length xbc] 53)
  have h2 := heap_alloc2_new w (Obj.cells #[.int .i64 ra, .slice xaa l.length xac] 53) (Obj.cells #[.int .i64 rb, .slice xba m.length xbc] 53)
  have hz : W.heap.size = w.heap.size + 2 := by rw [← hW]; simp
  rw [hW] at h1 h2
  obtain ⟨a0, a1, _⟩ := cells2e h1
  obtain ⟨b0, b1, _⟩ := cells2e h2
  have hl0 : w.heap.size < W.heap.size := by omega
  have hl1 : w.heap.size + 1 < W.heap.size := by omega
  have hc := ncompare _ _ l m W.drew ((ha.below hbW).below (Only.drew (Only.refl [] W)).below) ((hb.below hbW).below (Only.drew (Only.refl [] W)).below)
  have ho := fun x y => or_two W.heap.size x y ((W.alloc (Obj.cells #[.int .i64 x, .int .i64 y] 3)).drew) (cellAt (i := 0) (heap_alloc0 W (Obj.cells #[.int .i64 x, .int .i64 y] 3)) rfl) (cellAt (i := 1) (heap_alloc0 W (Obj.cells #[.int .i64 x, .int .i64 y] 3)) rfl)
  have Hc := hide hc
  have Ho := hide ho
  have HW := hide hW
  have Hgrow : Hid (∀ x y : Int, (W.alloc (Obj.cells #[.int .i64 x, .int .i64 y] 3)).drew = grow (w.drewN 1) #[Obj.cells #[.int .i64 ra, .slice xaa l.length xac] 53, Obj.cells #[.int .i64 rb, .slice xba m.length xbc] 53, Obj.cells #[.int .i64 x, .int .i64 y] 3]) := hide fun x y => by
    rw [← hW, alloc_eq_grow, alloc_eq_grow, alloc_eq_grow, grow_grow, grow_grow]
    rfl
  have hcmp : Hid (cmpJ ⟨ra, l, .slice xaa l.length xac⟩ ⟨rb, m, .slice xba m.length xbc⟩ = if Lib.compareInt ra rb ≠ 0 then Lib.compareInt ra rb else cmpL l m) := hide rfl
  clear ha hb hbW h1 h2 hz hc ho hW
  unfold Jc.val
  obtain ⟨p, hp⟩ : ∃ p, Lib.compareInt ra rb = p := ⟨_, rfl⟩
  obtain ⟨q, hq⟩ : ∃ q, cmpL l m = q := ⟨_, rfl⟩
  have Hci := hide (Try.cmp_Compare_int ra rb W.drew)
  rw [hp] at Hci hcmp
  rw [hq] at Hc hcmp
  have ho2 := Ho.out p q
  obtain ⟨rr, hr⟩ : ∃ rr, (if p ≠ 0 then p else q) = rr := ⟨_, rfl⟩
  rw [hr] at ho2 hcmp
  have Ho2 := hide ho2
  clear hp hq ho2 hr Ho
  go_enter Try.func66, Try.ntmps66
  go_upto_region 1 with fail
  rw [HW.out]
  go_wp2_with fail
  go_region_held3 (fun V => V.cell? ⟨w.heap.size, 0, none⟩ = some (.int .i64 ra) ∧ V.cell? ⟨w.heap.size, 1, none⟩ = some (.slice xaa l.length xac) ∧ V.cell? ⟨w.heap.size + 1, 0, none⟩ = some (.int .i64 rb) ∧ V.cell? ⟨w.heap.size + 1, 1, none⟩ = some (.slice xba m.length xbc)) (go_keep)
    (first
      | ((go_at_call 50; have hqq := Hci.out; (with_reducible refine Calls.mono hqq ?_); clear hqq; rintro e w' ⟨rfl, rfl⟩))
      | ((go_at_call 68; have hqq := Hc.out; (with_reducible refine Calls.mono hqq ?_); clear hqq; rintro e w' ⟨rfl, rfl⟩))
      | ((go_at_call 67; have hqq := Ho2.out; (with_reducible refine Calls.mono hqq ?_); clear hqq; rintro e w' ⟨rfl, rfl⟩)))
  all_goals
    go_wp2
    go_ret
    exact ⟨by rw [hcmp.out]; rfl, 1, _, Hgrow.out p q⟩
theorem eg_of1 : ∀ args w, (callFunc 66 args).run Try.prog w = .ok (.enter 66 args) w := enters_of Try.func66 (by kernel_rfl) rfl
end Go.Proofs.Ytmcajoccfbebiaa
