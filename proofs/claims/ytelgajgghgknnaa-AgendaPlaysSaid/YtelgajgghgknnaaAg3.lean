/- The contracts of an agenda's methods. -/
import Derived.Test.YtelgajgghgknnaaAg2
namespace Go.Proofs.Ytelgajgghgknnaa
open Go Go.RowKit Go.MapKept Go.Sort

theorem eg_all : ∀ args w, (callFunc 34 args).run Try.prog w = .ok (.enter 34 args) w := enters_of Try.func34 (by kernel_rfl) rfl
theorem eg_list : ∀ args w, (callFunc 37 args).run Try.prog w = .ok (.enter 37 args) w := enters_of Try.func37 (by kernel_rfl) rfl

theorem new_ag (s : Int) (w : World) :
    Calls Try.prog 10 #[.int .u8 s] w fun r w' => r = .returned (.pointer (some ⟨w.heap.size, 0, none⟩)) ∧ AgIs w.heap.size w' w.heap.size s (.slice none 0 0) [] ∧ Below w.heap.size w w' := by
  have hbox := heap_alloc0 w (Obj.cells #[.int .u8 s, .slice none 0 0] 57)
  have Hbox := hide hbox
  clear hbox
  go_enter Try.func10, Try.ntmps10
  go_wp2
  go_ret
  exact ⟨rfl, ⟨Hbox.out, Nat.le_refl _, ⟨by simp, World.ownsRow_nil _ _ _ _, by simp⟩⟩, ((Only.refl [] w).alloc _).below⟩

/-- What is told as a list. -/
def ListIs (B : Nat) (w : World) (v : Value) (cs : List Co) : Prop := ∃ l, ResIs B w v l ∧ l.map Ac.co = cs

theorem list_any (B b : Nat) (s : Int) (v : Value) (l : List En) (w : World) (h : AgIs B w b s v l) :
    Calls Try.prog 17 #[.pointer (some ⟨b, 0, none⟩)] w fun r w' => ∃ v' l', r = .returned v' ∧ ResIs w.heap.size w' v' l' ∧ l'.map Ac.co = sortC s ((l.filter fun e => !e.fired).map fun e => e.ac.co) ∧ Below w.heap.size w w' := by
  have Ht := hide (told_any _ _ eg_list asks_list B b s v l w h)
  clear h
  go_enter Try.func17, Try.ntmps17
  go_wp2_with fail
  refine Ht.out.mono ?_
  rintro r w' ⟨v', l', rfl, h1, h2, h3⟩
  obtain ⟨a, c, rfl⟩ := h1.acts.form
  have H1 := hide h1
  have H2 := hide h2
  have H3 := hide h3
  clear h1 h2 h3
  go_wp2
  go_ret
  exact ⟨_, l', rfl, H1.out, H2.out, H3.out⟩

theorem all_any (B b : Nat) (s : Int) (v : Value) (l : List En) (w : World) (h : AgIs B w b s v l) :
    Calls Try.prog 12 #[.pointer (some ⟨b, 0, none⟩)] w fun r w' => ∃ v' l', r = .returned v' ∧ ResIs w.heap.size w' v' l' ∧ l'.map Ac.co = sortC s (l.map fun e => e.ac.co) ∧ Below w.heap.size w w' := by
  have ht := told_any _ _ eg_all asks_all B b s v l w h
  rw [List.filter_eq_self.2 (fun _ _ => rfl)] at ht
  have Ht := hide ht
  clear h ht
  go_enter Try.func12, Try.ntmps12
  go_wp2_with fail
  refine Ht.out.mono ?_
  rintro r w' ⟨v', l', rfl, h1, h2, h3⟩
  obtain ⟨a, c, rfl⟩ := h1.acts.form
  have H1 := hide h1
  have H2 := hide h2
  have H3 := hide h3
  clear h1 h2 h3
  go_wp2
  go_ret
  exact ⟨_, l', rfl, H1.out, H2.out, H3.out⟩

/-- One matches. -/
def hasE (l : List En) (x : Ac) : Bool := l.any fun e => e.ac.same x
/-- One was fired. -/
def firedE (l : List En) (x : Ac) : Bool := match l.findIdx? (fun e => e.ac.same x) with | some i => (l[i]?.map (·.fired)).getD false | none => false

theorem has_any (B b : Nat) (s : Int) (v : Value) (l : List En) (x : Ac) (w : World) (h : AgIs B w b s v l) (hx : NIs w x.x x.tup) :
    Calls Try.prog 13 #[.pointer (some ⟨b, 0, none⟩), x.val] w fun r w' => r = .returned (.bool (hasE l x)) ∧ Below w.heap.size w w' := by
  obtain ⟨rx, lx, sx, vx⟩ := x
  simp only at hx
  obtain ⟨xa, xc, rfl⟩ := hx.form
  obtain ⟨W, hW⟩ : ∃ W, w.alloc (Obj.cells #[.int .i64 rx, .slice xa lx.length xc, .int .i64 sx] 27) = W := ⟨_, rfl⟩
  have hb1 : Below w.heap.size w W := by rw [← hW]; exact ((Only.refl [] w).alloc _).below
  have hbox := heap_alloc0 w (Obj.cells #[.int .i64 rx, .slice xa lx.length xc, .int .i64 sx] 27)
  have hsz : W.heap.size = w.heap.size + 1 := by rw [← hW]; simp
  rw [hW] at hbox
  obtain ⟨c0, c1, c2, _⟩ := cells3a hbox
  have oD : Below W.heap.size W W.drew := (Only.drew (Only.refl [] W)).below
  have hf := find_any B b s v l ⟨rx, lx, sx, .slice xa lx.length xc⟩ W.drew ((h.below hb1).below oD) ((hx.below hb1).below oD)
  have hkeep : ∀ V, Below W.drew.heap.size W.drew V → Below w.heap.size w V ∧ V.cell? ⟨w.heap.size, 0, none⟩ = some (.int .i64 rx) ∧ V.cell? ⟨w.heap.size, 1, none⟩ = some (.slice xa lx.length xc) ∧ V.cell? ⟨w.heap.size, 2, none⟩ = some (.int .i64 sx) := fun V hV =>
    have hz : w.heap.size < W.heap.size := by omega
    have hV' := below_undrew hV
    ⟨hb1.trans (hV'.mono (by omega)), (hV'.cell (p := ⟨w.heap.size, 0, none⟩) hz).trans c0, (hV'.cell (p := ⟨w.heap.size, 1, none⟩) hz).trans c1, (hV'.cell (p := ⟨w.heap.size, 2, none⟩) hz).trans c2⟩
  have HW := hide hW
  have Hkeep := hide hkeep
  unfold Ac.val at hf ⊢
  have hcase : (idx l ⟨rx, lx, sx, .slice xa lx.length xc⟩ = -1 ∧ hasE l ⟨rx, lx, sx, .slice xa lx.length xc⟩ = false) ∨ (0 ≤ idx l ⟨rx, lx, sx, .slice xa lx.length xc⟩ ∧ hasE l ⟨rx, lx, sx, .slice xa lx.length xc⟩ = true) := by
    rcases idx_cases l ⟨rx, lx, sx, .slice xa lx.length xc⟩ with ⟨e1, e2⟩ | ⟨i, hi, e1, e2⟩
    · exact .inl ⟨e1, any_idx.1 e2⟩
    · exact .inr ⟨by omega, any_idx.2 i e2⟩
  have hyes : ∃ q : Bool, hasE l ⟨rx, lx, sx, .slice xa lx.length xc⟩ = q ∧ decide (0 ≤ idx l ⟨rx, lx, sx, .slice xa lx.length xc⟩) = q := by
    rcases hcase with ⟨e1, e2⟩ | ⟨e1, e2⟩
    · exact ⟨false, e2, decide_eq_false (by omega)⟩
    · exact ⟨true, e2, decide_eq_true e1⟩
  obtain ⟨q, hq1, hq2⟩ := hyes
  obtain ⟨n, hn⟩ : ∃ n, idx l ⟨rx, lx, sx, .slice xa lx.length xc⟩ = n := ⟨_, rfl⟩
  rw [hq1]
  rw [hn] at hf hq2
  have Hf := hide hf
  have Hq2 := hide hq2
  clear hf hkeep hcase hq1 hq2 hn hx h hb1 hW hbox hsz oD
  go_enter Try.func13, Try.ntmps13
  go_upto_region 1 with fail
  rw [HW.out]
  go_wp2_with fail
  go_region_held3 (fun V => V.cell? ⟨w.heap.size, 0, none⟩ = some (.int .i64 rx) ∧ V.cell? ⟨w.heap.size, 1, none⟩ = some (.slice xa lx.length xc) ∧ V.cell? ⟨w.heap.size, 2, none⟩ = some (.int .i64 sx)) (go_keep)
    ((go_at_call 35; have hqq := Hf.out; with_reducible refine Calls.mono hqq ?_; clear hqq; rintro r V ⟨rfl, hbV⟩; obtain ⟨y0, y1, y2, y3⟩ := Hkeep.out V hbV; have HbV := hide y0; clear hbV y0))
  go_wp2
  go_ret
  exact ⟨by rw [← Hq2.out]; rfl, HbV.out⟩
theorem fired_any (B b : Nat) (s : Int) (v : Value) (l : List En) (x : Ac) (w : World) (h : AgIs B w b s v l) (hx : NIs w x.x x.tup) :
    Calls Try.prog 16 #[.pointer (some ⟨b, 0, none⟩), x.val] w fun r w' => r = .returned (.bool (firedE l x)) ∧ Below w.heap.size w w' := by
  have hltb := lt_of_heap h.blk
  obtain ⟨rx, lx, sx, vx⟩ := x
  simp only at hx
  obtain ⟨xa, xc, rfl⟩ := hx.form
  obtain ⟨W, hW⟩ : ∃ W, w.alloc (Obj.cells #[.int .i64 rx, .slice xa lx.length xc, .int .i64 sx] 27) = W := ⟨_, rfl⟩
  have hb1 : Below w.heap.size w W := by rw [← hW]; exact ((Only.refl [] w).alloc _).below
  have hbox := heap_alloc0 w (Obj.cells #[.int .i64 rx, .slice xa lx.length xc, .int .i64 sx] 27)
  have hsz : W.heap.size = w.heap.size + 1 := by rw [← hW]; simp
  rw [hW] at hbox
  obtain ⟨c0, c1, c2, _⟩ := cells3a hbox
  have oD : Below W.heap.size W W.drew := (Only.drew (Only.refl [] W)).below
  have hf := has_any B b s v l ⟨rx, lx, sx, .slice xa lx.length xc⟩ W.drew ((h.below hb1).below oD) ((hx.below hb1).below oD)
  have hkeep : ∀ V, Below W.drew.heap.size W.drew V → Below w.heap.size w V ∧ V.cell? ⟨w.heap.size, 0, none⟩ = some (.int .i64 rx) ∧ V.cell? ⟨w.heap.size, 1, none⟩ = some (.slice xa lx.length xc) ∧ V.cell? ⟨w.heap.size, 2, none⟩ = some (.int .i64 sx) := fun V hV =>
    have hz : w.heap.size < W.heap.size := by omega
    have hV' := below_undrew hV
    ⟨hb1.trans (hV'.mono (by omega)), (hV'.cell (p := ⟨w.heap.size, 0, none⟩) hz).trans c0, (hV'.cell (p := ⟨w.heap.size, 1, none⟩) hz).trans c1, (hV'.cell (p := ⟨w.heap.size, 2, none⟩) hz).trans c2⟩
  have HW := hide hW
  have Hkeep := hide hkeep
  have H := hide h
  have HX := hide hx
  obtain ⟨va, vc, rfl, _⟩ := h.ens.form
  unfold Ac.val at hf ⊢
  rcases idx_cases l ⟨rx, lx, sx, .slice xa lx.length xc⟩ with ⟨e1, e2⟩ | ⟨i, hi, e1, e2⟩
  · have hno : hasE l ⟨rx, lx, sx, .slice xa lx.length xc⟩ = false := any_idx.1 e2
    have hfe : firedE l ⟨rx, lx, sx, .slice xa lx.length xc⟩ = false := by unfold firedE; rw [e2]
    rw [hno] at hf
    rw [hfe]
    have Hf := hide hf
    clear hf hkeep hno hfe e1 e2 hx h hb1 hW hbox hsz oD
    go_enter Try.func16, Try.ntmps16
    go_upto_region 1 with fail
    rw [HW.out]
    go_wp2_with fail
    refine wp_region_noPanic ?_
    refine wp_region_held_drew (S := fun V => V.cell? ⟨w.heap.size, 0, none⟩ = some (.int .i64 rx) ∧ V.cell? ⟨w.heap.size, 1, none⟩ = some (.slice xa lx.length xc) ∧ V.cell? ⟨w.heap.size, 2, none⟩ = some (.int .i64 sx)) (by kernel_rfl) ?_ (fun hHeld => ?_)
    · (try dsimp only); go_keep
    refine wpAnyH_take (i := 0) (oi := ⟨some 5, _, _, _, _, _⟩) (v := ?v0) rfl (by kernel_rfl) (by kernel_rfl) (by kernel_rfl) (fun _ _ _ h => h) (Or.inl ⟨by rfl, ?h0⟩) (by assumption) ?r0
    case h0 => (intro w hSw; (try dsimp only at hSw); (first | (go_simp; done) | (go_simp; with_reducible rfl)))
    try simp only [Act.put, List.setIfInBounds_toArray, List.set_cons_zero, List.set_cons_succ]
    refine wpAnyH_take (i := 1) (oi := ⟨some 6, _, _, _, _, _⟩) (v := ?v1) rfl (by kernel_rfl) (by kernel_rfl) (by kernel_rfl) (fun _ _ _ h => h) (Or.inl ⟨by rfl, ?h1⟩) (by assumption) ?r1
    case h1 => (intro w hSw; (try dsimp only at hSw); (first | (go_simp; done) | (go_simp; with_reducible rfl)))
    try simp only [Act.put, List.setIfInBounds_toArray, List.set_cons_zero, List.set_cons_succ]
    refine wpAnyH_ready (rs := [2]) (by kernel_rfl) (by simp) ?_
    refine AllReadyH.cons (o := ⟨some 7, _, _, _, _, _⟩) (rs := []) rfl (fun K hK => ?_) AllReadyH.nil
    go_simp
    go_at_call 13
    refine Hf.out.mono ?_
    rintro r V ⟨rfl, hbV⟩
    obtain ⟨y0, y1, y2, y3⟩ := Hkeep.out V hbV
    have HbV := hide y0
    clear hbV y0
    try go_wp2_with fail
    clear hHeld
    refine hK.out _ _ ?_ (fun hHeld => ?_)
    · (try dsimp only); go_keep
    clear hK K
    try simp only [Act.put, List.setIfInBounds_toArray, List.set_cons_zero, List.set_cons_succ]
    refine wpAnyH_take (i := 3) (oi := ⟨some 8, _, _, _, _, _⟩) (v := ?v3) rfl (by kernel_rfl) (by kernel_rfl) (by kernel_rfl) (fun _ _ _ h => h) (Or.inl ⟨by rfl, ?h3⟩) (by assumption) ?r3
    case h3 => (intro w hSw; (try dsimp only at hSw); (first | (go_simp; done) | (go_simp; with_reducible rfl)))
    try simp only [Act.put, List.setIfInBounds_toArray, List.set_cons_zero, List.set_cons_succ]
    refine wpAnyH_take (i := 4) (oi := ⟨some 9, _, _, _, _, _⟩) rfl (by kernel_rfl) (by kernel_rfl) (by kernel_rfl) (fun _ _ _ h => h) (Or.inr ⟨by rfl, rfl⟩) (by assumption) ?_
    try simp only [Act.put, List.setIfInBounds_toArray, List.set_cons_zero, List.set_cons_succ]
    refine wpAnyH_take (i := 5) (oi := ⟨some 10, _, _, _, _, _⟩) rfl (by kernel_rfl) (by kernel_rfl) (by kernel_rfl) (fun _ _ _ h => h) (Or.inr ⟨by rfl, rfl⟩) (by assumption) ?_
    try simp only [Act.put, List.setIfInBounds_toArray, List.set_cons_zero, List.set_cons_succ]
    refine wpAnyH_take (i := 6) (oi := ⟨some 11, _, _, _, _, _⟩) rfl (by kernel_rfl) (by kernel_rfl) (by kernel_rfl) (fun _ _ _ h => h) (Or.inr ⟨by rfl, rfl⟩) (by assumption) ?_
    try simp only [Act.put, List.setIfInBounds_toArray, List.set_cons_zero, List.set_cons_succ]
    refine wpAnyH_take (i := 7) (oi := ⟨some 12, _, _, _, _, _⟩) rfl (by kernel_rfl) (by kernel_rfl) (by kernel_rfl) (fun _ _ _ h => h) (Or.inr ⟨by rfl, rfl⟩) (by assumption) ?_
    try simp only [Act.put, List.setIfInBounds_toArray, List.set_cons_zero, List.set_cons_succ]
    refine wpAnyH_take (i := 8) (oi := ⟨some 13, _, _, _, _, _⟩) rfl (by kernel_rfl) (by kernel_rfl) (by kernel_rfl) (fun _ _ _ h => h) (Or.inr ⟨by rfl, rfl⟩) (by assumption) ?_
    try simp only [Act.put, List.setIfInBounds_toArray, List.set_cons_zero, List.set_cons_succ]
    refine wpAnyH_take (i := 9) (oi := ⟨some 14, _, _, _, _, _⟩) rfl (by kernel_rfl) (by kernel_rfl) (by kernel_rfl) (fun _ _ _ h => h) (Or.inr ⟨by rfl, rfl⟩) (by assumption) ?_
    try simp only [Act.put, List.setIfInBounds_toArray, List.set_cons_zero, List.set_cons_succ]
    refine wpAnyH_take (i := 10) (oi := ⟨some 15, _, _, _, _, _⟩) rfl (by kernel_rfl) (by kernel_rfl) (by kernel_rfl) (fun _ _ _ h => h) (Or.inr ⟨by rfl, rfl⟩) (by assumption) ?_
    try simp only [Act.put, List.setIfInBounds_toArray, List.set_cons_zero, List.set_cons_succ]
    refine wpAnyH_take (i := 11) (oi := ⟨some 16, _, _, _, _, _⟩) rfl (by kernel_rfl) (by kernel_rfl) (by kernel_rfl) (fun _ _ _ h => h) (Or.inr ⟨by rfl, rfl⟩) (by assumption) ?_
    try simp only [Act.put, List.setIfInBounds_toArray, List.set_cons_zero, List.set_cons_succ]
    refine wpAnyH_take (i := 12) (oi := ⟨some 17, _, _, _, _, _⟩) rfl (by kernel_rfl) (by kernel_rfl) (by kernel_rfl) (fun _ _ _ h => h) (Or.inr ⟨by rfl, rfl⟩) (by assumption) ?_
    try simp only [Act.put, List.setIfInBounds_toArray, List.set_cons_zero, List.set_cons_succ]
    refine wpAnyH_take (i := 13) (oi := ⟨some 18, _, _, _, _, _⟩) rfl (by kernel_rfl) (by kernel_rfl) (by kernel_rfl) (fun _ _ _ h => h) (Or.inr ⟨by rfl, rfl⟩) (by assumption) ?_
    try simp only [Act.put, List.setIfInBounds_toArray, List.set_cons_zero, List.set_cons_succ]
    refine wpAnyH_take (i := 14) (oi := ⟨some 19, _, _, _, _, _⟩) rfl (by kernel_rfl) (by kernel_rfl) (by kernel_rfl) (fun _ _ _ h => h) (Or.inr ⟨by rfl, rfl⟩) (by assumption) ?_
    try simp only [Act.put, List.setIfInBounds_toArray, List.set_cons_zero, List.set_cons_succ]
    refine wpAnyH_take (i := 15) (oi := ⟨some 20, _, _, _, _, _⟩) rfl (by kernel_rfl) (by kernel_rfl) (by kernel_rfl) (fun _ _ _ h => h) (Or.inr ⟨by rfl, rfl⟩) (by assumption) ?_
    try simp only [Act.put, List.setIfInBounds_toArray, List.set_cons_zero, List.set_cons_succ]
    refine wpAnyH_take (i := 16) (oi := ⟨some 21, _, _, _, _, _⟩) rfl (by kernel_rfl) (by kernel_rfl) (by kernel_rfl) (fun _ _ _ h => h) (Or.inr ⟨by rfl, rfl⟩) (by assumption) ?_
    try simp only [Act.put, List.setIfInBounds_toArray, List.set_cons_zero, List.set_cons_succ]
    refine wpAnyH_take (i := 17) (oi := ⟨some 22, _, _, _, _, _⟩) (v := ?v17) rfl (by kernel_rfl) (by kernel_rfl) (by kernel_rfl) (fun _ _ _ h => h) (Or.inl ⟨by rfl, ?h17⟩) (by assumption) ?r17
    case h17 => (intro w hSw; (try dsimp only at hSw); (first | (go_simp; done) | (go_simp; with_reducible rfl)))
    try simp only [Act.put, List.setIfInBounds_toArray, List.set_cons_zero, List.set_cons_succ]
    refine wpAnyH_take (i := 18) (oi := ⟨some 4, _, _, _, _, _⟩) (v := ?v18) rfl (by kernel_rfl) (by kernel_rfl) (by kernel_rfl) (fun _ _ _ h => h) (Or.inl ⟨by rfl, ?h18⟩) (by assumption) ?r18
    case h18 => (intro w hSw; (try dsimp only at hSw); (first | (go_simp; done) | (go_simp; with_reducible rfl)))
    try simp only [Act.put, List.setIfInBounds_toArray, List.set_cons_zero, List.set_cons_succ]
    refine wpAnyH_done (by kernel_rfl) ?_ _
    refine NoPanic.normal ?_
    go_wp2
    go_ret
    exact ⟨rfl, HbV.out⟩
  · have hyes : hasE l ⟨rx, lx, sx, .slice xa lx.length xc⟩ = true := any_idx.2 i e2
    have hfe : firedE l ⟨rx, lx, sx, .slice xa lx.length xc⟩ = l[i].fired := by unfold firedE; rw [e2]; simp [hi]
    rw [hyes] at hf
    rw [hfe]
    have Hf := hide hf
    have hkeep2 : ∀ V, Below W.drew.heap.size W.drew V → V.cell? ⟨b, 1, none⟩ = some (.slice va l.length vc) := fun V hV =>
      (cells2e ((h.below (hkeep V hV).1)).blk).2.1
    have hfind : ∀ V, Below W.drew.heap.size W.drew V → Calls Try.prog 35 #[.pointer (some ⟨b, 0, none⟩), .agg #[.int .i64 rx, .slice xa lx.length xc, .int .i64 sx]] V fun r w' => r = .returned (.int .i64 i) ∧ Below W.drew.heap.size W.drew w' := fun V hV => by
      have := find_any B b s _ l ⟨rx, lx, sx, .slice xa lx.length xc⟩ V (h.below (hkeep V hV).1) (hx.below (hkeep V hV).1)
      rw [e1] at this
      unfold Ac.val at this
      exact this.mono fun r w' ⟨h1, h2⟩ => ⟨h1, hV.trans (h2.mono hV.size)⟩
    obtain ⟨g, cap, ya, yc, e, _, _, _, _, _, _⟩ := h.ens.at hi
    injection e with q1 q2 q3
    subst q1 q3
    have hrow : ∀ V, Below W.drew.heap.size W.drew V → V.cell? ⟨g, i * 4 + 3, none⟩ = some (.bool l[i].fired) := fun V hV => by
      obtain ⟨g', cap', ya', yc', e', _, _, _, _, ⟨_, _, _, c3⟩, _⟩ := ((h.below (hkeep V hV).1).ens).at hi
      injection e' with q1 q2 q3
      injection q1 with q1
      injection q1 with q1 q4 q5
      subst q1
      exact c3
    have Hkeep2 := hide hkeep2
    have Hfind := hide hfind
    have Hrow := hide hrow
    have oDD : Below W.drew.heap.size W.drew W.drew := Below.refl _ _
    have d1 : W.cell? ⟨b, 1, none⟩ = some (.slice (some ⟨g, 0, none⟩) l.length vc) := hkeep2 W.drew oDD
    have d2 : W.cell? ⟨g, i * 4 + 3, none⟩ = some (.bool l[i].fired) := hrow W.drew oDD
    have i1 : (0 : Int) ≤ (i : Int) := by omega
    have i2 : (i : Int) < (l.length : Int) := by omega
    clear hf hkeep hyes hfe e1 e2 hx h hb1 hW hbox hsz oD hkeep2 hfind hrow q2 oDD
    go_enter Try.func16, Try.ntmps16
    go_upto_region 1 with fail
    rw [HW.out]
    go_wp2_with fail
    go_region_held3 (fun V => V.cell? ⟨w.heap.size, 0, none⟩ = some (.int .i64 rx) ∧ V.cell? ⟨w.heap.size, 1, none⟩ = some (.slice xa lx.length xc) ∧ V.cell? ⟨w.heap.size, 2, none⟩ = some (.int .i64 sx) ∧ V.cell? ⟨b, 1, none⟩ = some (.slice (some ⟨g, 0, none⟩) l.length vc) ∧ V.cell? ⟨g, i * 4 + 3, none⟩ = some (.bool l[i].fired)) (go_keep)
      (first
        | (go_at_call 13; have hqq := Hf.out; with_reducible refine Calls.mono hqq ?_; clear hqq; rintro r V ⟨rfl, hbV⟩; obtain ⟨y0, y1, y2, y3⟩ := Hkeep.out V hbV; have y4 := Hkeep2.out V hbV; have y5 := Hrow.out V hbV; have HbV := hide hbV; clear hbV y0)
        | (go_at_call 35; have hqq := Hfind.out _ HbV.out; with_reducible refine Calls.mono hqq ?_; clear hqq; rintro r V2 ⟨rfl, hbV⟩; obtain ⟨x0, x1, x2, x3⟩ := Hkeep.out V2 hbV; have x4 := Hkeep2.out V2 hbV; have x5 := Hrow.out V2 hbV; have HbV2 := hide x0; clear hbV x0))
    go_wp2
    go_ret
    exact ⟨rfl, HbV2.out⟩
end Go.Proofs.Ytelgajgghgknnaa
