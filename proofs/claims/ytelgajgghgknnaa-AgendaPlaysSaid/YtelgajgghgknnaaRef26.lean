/- The contracts of witanref26: Rows, Same, SameAll. -/
import Derived.Test.YtelgajgghgknnaaSortB
import Derived.BigRegion
namespace Go.Proofs.Ytelgajgghgknnaa
open Go Go.RowKit Go.MapKept Go.Sort

theorem NIs.only0 {w w' : World} {x : Value} {l : List Int} (h : NIs w x l) (ho : Only [] w w') : NIs w' x l := h.below ho.below

theorem cmp_gt {p q : Int} (h : q < p) : Lib.compareInt p q = 1 := by
  unfold Lib.compareInt
  rw [if_neg (by omega), if_pos h]

set_option maxHeartbeats 1000000 in
theorem rows_any (x y : Value) (l m : List Int) (w : World) (hx : NIs w x l) (hy : NIs w y m) :
    Calls Try.prog 36 #[x, y] w fun e w' => e = .returned (.int .i64 (cmpL l m)) ∧ Below w.heap.size w w' := by
  obtain ⟨xa, xc, rfl⟩ := hx.form
  obtain ⟨ya, yc, rfl⟩ := hy.form
  have hlx := hx.1
  have hly := hy.1
  have Hx := hide hx
  have Hy := hide hy
  clear hx hy
  go_enter Try.func36, Try.ntmps36
  go_wp2
  go_loopw [5] (fun i wr => ∃ k : Nat, k ≤ l.length ∧ k ≤ m.length ∧ i = .int .i64 k ∧ Hid (cmpL l m = cmpL (l.drop k) (m.drop k)) ∧ Hid (Only [] w wr)) (fun i _ => l.length - (intOf i).toNat)
  case atStart => exact ⟨0, Nat.zero_le _, Nat.zero_le _, rfl, rfl, Only.refl _ _⟩
  case round =>
    obtain ⟨k, hk1, hk2, rfl, hq, ho⟩ := hrel
    by_cases h1 : k < l.length
    · by_cases h2 : k < m.length
      · obtain ⟨b, o, cp, e, d0⟩ := (Hx.out.only0 ho.out).at h1
        injection e with e1 e2 e3
        subst e1 e3
        clear e2
        obtain ⟨b', o', cp', e, d1⟩ := (Hy.out.only0 ho.out).at h2
        injection e with e1 e2 e3
        subst e1 e3
        clear e2
        have hstep := cmpL_step h1 h2
        obtain ⟨p, hp⟩ : ∃ p, l[k] = p := ⟨_, rfl⟩
        obtain ⟨q, hqe⟩ : ∃ q, m[k] = q := ⟨_, rfl⟩
        rw [hp] at d0 hstep
        rw [hqe] at d1 hstep
        have Hstep := hide hstep
        clear hp hqe hstep
        have i1 : (k : Int) < (l.length : Int) := by omega
        have i2 : (k : Int) < (m.length : Int) := by omega
        rcases (by omega : p < q ∨ q < p ∨ p = q) with hc | hc | rfl
        · have ho1 := hide ho.out.drew
          go_wp2_with fail
          go_region
          all_goals
            go_wp2
            go_ret
            exact ⟨by rw [hq.out, Hstep.out]; simp [Lib.compareInt, hc], ho1.out.below⟩
        · have ho1 := hide ho.out.drew.drew
          have hn : ¬ p < q := by omega
          go_wp2_with fail
          go_region
          all_goals go_wp2_with fail
          go_region
          all_goals
            go_wp2
            go_ret
            exact ⟨by rw [hq.out, Hstep.out, cmp_gt hc]; rfl, ho1.out.below⟩
        · have ho1 := hide ho.out.drew.drew
          go_wp2_with fail
          go_region
          all_goals go_wp2_with fail
          go_region
          all_goals
            go_wp2
            go_roundw
            case rel => exact ⟨k + 1, by omega, by omega, by go_num, (show cmpL l m = _ by rw [hq.out, Hstep.out]; simp [Lib.compareInt]), ho1.out⟩
            case measure => simp [intOf]; omega
      · obtain rfl : k = m.length := by omega
        go_wp2
        go_ret
        refine ⟨?_, ho.out.below⟩
        rw [hq.out, List.drop_length, List.drop_eq_getElem_cons h1]
        rfl
    · obtain rfl : k = l.length := by omega
      by_cases h2 : l.length < m.length
      · go_wp2
        go_ret
        refine ⟨?_, ho.out.below⟩
        rw [hq.out, List.drop_length, List.drop_eq_getElem_cons h2]
        rfl
      · have he : l.length = m.length := by omega
        have He := hide he
        clear he
        have h3 : ¬ m.length < l.length := by omega
        go_wp2
        go_ret
        refine ⟨?_, ho.out.below⟩
        have : m.drop l.length = [] := by rw [He.out, List.drop_length]
        rw [hq.out, List.drop_length, this]
        rfl

theorem rsame_any (a b : Ac) (w : World) (ha : NIs w a.x a.tup) (hb : NIs w b.x b.tup) :
    Calls Try.prog 15 #[a.val, b.val] w fun e w' => e = .returned (.bool (decide (a.rule = b.rule ∧ a.tup = b.tup))) ∧ Below w.heap.size w w' := by
  obtain ⟨ra, l, sa, xa⟩ := a
  obtain ⟨rb, m, sb, xb⟩ := b
  simp only at ha hb
  obtain ⟨xaa, xac, rfl⟩ := ha.form
  obtain ⟨xba, xbc, rfl⟩ := hb.form
  have o2 : Below w.heap.size w ((w.alloc (Obj.cells #[.int .i64 ra, .slice xaa l.length xac, .int .i64 sa] 27)).alloc (Obj.cells #[.int .i64 rb, .slice xba m.length xbc, .int .i64 sb] 27)) := (((Only.refl [] w).alloc _).alloc _).below
  have heq := rows_any _ _ l m _ (ha.below o2) (hb.below o2)
  have hz := cmpL_zero l m
  have Heq := hide heq
  have O2 := hide o2
  clear ha hb heq o2
  unfold Ac.val
  by_cases hr : ra = rb
  · subst hr
    obtain ⟨q, hq⟩ : ∃ q, cmpL l m = q := ⟨_, rfl⟩
    rw [hq] at Heq hz
    have Hz := hide hz
    clear hz hq
    by_cases h0 : q = 0
    · have hb1 : (q == 0) = true := by simpa using h0
      have H0 := hide h0
      clear h0
      go_enter Try.func15, Try.ntmps15
      go_wp2_with fail
      refine Heq.out.mono ?_
      rintro e w' ⟨rfl, hb⟩
      have HB := hide (O2.out.trans (hb.mono O2.out.size))
      clear hb
      go_wp2
      go_ret
      exact ⟨by simp only [true_and]; rw [decide_eq_true (Hz.out.1 H0.out)]; rfl, HB.out⟩
    · have hb1 : (q == 0) = false := by simpa using h0
      have H0 := hide h0
      clear h0
      go_enter Try.func15, Try.ntmps15
      go_wp2_with fail
      refine Heq.out.mono ?_
      rintro e w' ⟨rfl, hb⟩
      have HB := hide (O2.out.trans (hb.mono O2.out.size))
      clear hb
      go_wp2
      go_ret
      exact ⟨by simp only [true_and]; rw [decide_eq_false (fun h => H0.out (Hz.out.2 h))]; rfl, HB.out⟩
  · have hrb : (ra == rb) = false := by simpa using hr
    have Hr := hide hr
    clear hr hz
    go_enter Try.func15, Try.ntmps15
    go_wp2
    go_ret
    exact ⟨by rw [decide_eq_false (fun h => Hr.out h.1)]; rfl, O2.out⟩

theorem co_eq (a b : Ac) : a.co = b.co ↔ (a.rule = b.rule ∧ a.tup = b.tup) ∧ a.sal = b.sal := by
  unfold Ac.co
  rw [Co.mk.injEq]
  exact ⟨fun ⟨h1, h2, h3⟩ => ⟨⟨h1, h2⟩, h3⟩, fun ⟨⟨h1, h2⟩, h3⟩ => ⟨h1, h2, h3⟩⟩

theorem map_get {α β : Type} {f : α → β} {l m : List α} (h : l.map f = m.map f) {k : Nat} (h1 : k < l.length) (h2 : k < m.length) : f l[k] = f m[k] := by
  have := congrArg (fun q => q[k]?) h
  simpa [h1, h2] using this
theorem map_eq {α β : Type} {f : α → β} {l m : List α} (hn : l.length = m.length) (h : ∀ j (h1 : j < l.length) (h2 : j < m.length), f l[j] = f m[j]) : l.map f = m.map f :=
  List.ext_getElem (by simpa using hn) fun i h1 h2 => by simpa using h i (by simpa using h1) (by simpa using h2)

set_option maxHeartbeats 4000000 in
theorem sameAll_any (x y : Value) (l m : List Ac) (w : World) (hx : ActsIs w x l) (hy : ActsIs w y m) :
    Calls Try.prog 19 #[x, y] w fun e w' => e = .returned (.bool (decide (l.map Ac.co = m.map Ac.co))) ∧ Below w.heap.size w w' := by
  obtain ⟨xa, xc, rfl⟩ := hx.form
  obtain ⟨ya, yc, rfl⟩ := hy.form
  have hlx := hx.len
  have hly := hy.len
  by_cases hn : l.length = m.length
  · have hnb : ((l.length : Int) != (m.length : Int)) = false := by rw [hn]; simp
    have HN := hide hn
    have hle : m.length ≤ l.length := by omega
    have hle2 : l.length ≤ m.length := by omega
    have Hx := hide hx
    have Hy := hide hy
    clear hx hy hn
    go_enter Try.func19, Try.ntmps19
    go_wp2
    go_loopw [5] (fun i wr => ∃ k : Nat, k ≤ l.length ∧ i = .int .i64 k ∧ Hid (∀ j (h1 : j < l.length) (h2 : j < m.length), j < k → l[j].co = m[j].co) ∧ Hid (Below w.heap.size w wr)) (fun i _ => l.length - (intOf i).toNat)
    case atStart => exact ⟨0, Nat.zero_le _, rfl, fun j _ _ h => by omega, Below.refl _ _⟩
    case round =>
      obtain ⟨k, hk, rfl, hq, hb⟩ := hrel
      by_cases h1 : k < l.length
      · have h2 : k < m.length := by omega
        have hX := Hx.out.below hb.out
        have hY := Hy.out.below hb.out
        obtain ⟨b, o, cp, pa, pc, e, hpx, x0, x1, x2⟩ := hX.at h1
        injection e with e1 e2 e3
        subst e1 e3
        clear e2
        obtain ⟨b', o', cp', qa, qc, e, hqx, y0, y1, y2⟩ := hY.at h2
        injection e with e1 e2 e3
        subst e1 e3
        clear e2
        have nx := hX.tups _ (List.getElem_mem h1)
        have ny := hY.tups _ (List.getElem_mem h2)
        obtain ⟨A, hA⟩ : ∃ A, l[k] = A := ⟨_, rfl⟩
        obtain ⟨B, hB⟩ : ∃ B, m[k] = B := ⟨_, rfl⟩
        rw [hA] at hpx x0 x1 x2 nx
        rw [hB] at hqx y0 y1 y2 ny
        obtain ⟨ra, ta, sa, xa'⟩ := A
        obtain ⟨rb, tb, sb, xb'⟩ := B
        simp only at hpx x0 x1 x2 nx hqx y0 y1 y2 ny
        subst hpx hqx
        have hs := rsame_any ⟨ra, ta, sa, .slice pa ta.length pc⟩ ⟨rb, tb, sb, .slice qa tb.length qc⟩ wr.drew (nx.only0 ((Only.refl _ _).drew)) (ny.only0 ((Only.refl _ _).drew))
        simp only [Ac.val] at hs
        have HA := hide hA
        have HB := hide hB
        have hco := hide (co_eq l[k] m[k])
        rw [hA, hB] at hco
        simp only at hco
        obtain ⟨sm, hsm⟩ : ∃ sm, decide (ra = rb ∧ ta = tb) = sm := ⟨_, rfl⟩
        rw [hsm] at hs
        have Hs := hide hs
        have Hsm := hide hsm
        have hkeep : ∀ V, Below wr.drew.heap.size wr.drew V → Below w.heap.size w V ∧ (V.cell? ⟨b, o + k * 3, none⟩ = some (.int .i64 ra) ∧ V.cell? ⟨b, o + k * 3 + 1, none⟩ = some (.slice pa ta.length pc) ∧ V.cell? ⟨b, o + k * 3 + 2, none⟩ = some (.int .i64 sa)) ∧
            (V.cell? ⟨b', o' + k * 3, none⟩ = some (.int .i64 rb) ∧ V.cell? ⟨b', o' + k * 3 + 1, none⟩ = some (.slice qa tb.length qc) ∧ V.cell? ⟨b', o' + k * 3 + 2, none⟩ = some (.int .i64 sb)) := fun V hv =>
          ⟨hb.out.trans ((show Below wr.heap.size wr V from ⟨hv.os, hv.tape, hv.output, hv.size, hv.block⟩).mono hb.out.size), ⟨(hv.cell (p := ⟨b, o + k * 3, none⟩) (lt_of_cell x0)).trans x0, (hv.cell (p := ⟨b, o + k * 3 + 1, none⟩) (lt_of_cell x1)).trans x1, (hv.cell (p := ⟨b, o + k * 3 + 2, none⟩) (lt_of_cell x2)).trans x2⟩,
            (hv.cell (p := ⟨b', o' + k * 3, none⟩) (lt_of_cell y0)).trans y0, (hv.cell (p := ⟨b', o' + k * 3 + 1, none⟩) (lt_of_cell y1)).trans y1, (hv.cell (p := ⟨b', o' + k * 3 + 2, none⟩) (lt_of_cell y2)).trans y2⟩
        have Hkeep := hide hkeep
        clear hX hY nx ny hA hB hs hsm hkeep
        have i1 : (k : Int) < (l.length : Int) := by omega
        have i2 : (k : Int) < (m.length : Int) := by omega
        have i3 : (0 : Int) ≤ (k : Int) := by omega
        cases sm with
        | true =>
          go_wp2_with fail
          go_region_held3 (fun V => V.cell? ⟨b, o + k * 3, none⟩ = some (.int .i64 ra) ∧ V.cell? ⟨b, o + k * 3 + 1, none⟩ = some (.slice pa ta.length pc) ∧ V.cell? ⟨b, o + k * 3 + 2, none⟩ = some (.int .i64 sa) ∧ V.cell? ⟨b', o' + k * 3, none⟩ = some (.int .i64 rb) ∧ V.cell? ⟨b', o' + k * 3 + 1, none⟩ = some (.slice qa tb.length qc) ∧ V.cell? ⟨b', o' + k * 3 + 2, none⟩ = some (.int .i64 sb)) (go_keep)
            ((go_at_call 15; have hqq := Hs.out; with_reducible refine Calls.mono hqq ?_; clear hqq; rintro e V ⟨rfl, hbV⟩; obtain ⟨z6, ⟨z0, z1, z2⟩, z3, z4, z5⟩ := Hkeep.out V hbV; have HbV := hide z6; clear hbV z6))
          clear z0 z1 z2 z3 z4 z5 x0 x1 x2 y0 y1 y2 Hkeep Hs
          by_cases hsal : sa = sb
          · have hsb : (sa != sb) = false := by rw [hsal]; simp
            have Hsal := hide hsal
            clear hsal
            go_wp2
            go_roundw
            case rel =>
              refine ⟨k + 1, by omega, by go_num, fun j j1 j2 hj => ?_, HbV.out⟩
              rcases Nat.lt_or_ge j k with q | q
              · exact hq.out j j1 j2 q
              · obtain rfl : j = k := by omega
                rw [HA.out, HB.out]
                exact hco.out.2 ⟨of_decide_eq_true Hsm.out, Hsal.out⟩
            case measure => simp [intOf]; omega
          · have hsb : (sa != sb) = true := by rw [bne_iff_ne]; exact hsal
            have Hsal := hide hsal
            clear hsal
            go_wp2
            go_ret
            refine ⟨?_, HbV.out⟩
            rw [decide_eq_false (fun h => Hsal.out ?_)]
            · rfl
            · have := map_get h (by omega) h2
              rw [HA.out, HB.out] at this
              exact (hco.out.1 this).2
        | false =>
          go_wp2_with fail
          refine wp_region_noPanic ?_
          refine wp_region_held_drew (S := fun V => V.cell? ⟨b, o + k * 3, none⟩ = some (.int .i64 ra) ∧ V.cell? ⟨b, o + k * 3 + 1, none⟩ = some (.slice pa ta.length pc) ∧ V.cell? ⟨b, o + k * 3 + 2, none⟩ = some (.int .i64 sa) ∧ V.cell? ⟨b', o' + k * 3, none⟩ = some (.int .i64 rb) ∧ V.cell? ⟨b', o' + k * 3 + 1, none⟩ = some (.slice qa tb.length qc) ∧ V.cell? ⟨b', o' + k * 3 + 2, none⟩ = some (.int .i64 sb)) (by kernel_rfl) ?_ (fun hHeld => ?_)
          · (try dsimp only); go_keep
          refine wpAnyH_take (i := 0) (oi := ⟨some 17, _, _, _, _, _⟩) (v := ?v0) rfl (by kernel_rfl) (by kernel_rfl) (by kernel_rfl) (fun _ _ _ h => h) (Or.inl ⟨by rfl, ?h0⟩) (by assumption) ?r0
          case h0 => (intro w hSw; (try dsimp only at hSw); (first | (go_simp; done) | (go_simp; with_reducible rfl)))
          try simp only [Act.put, List.setIfInBounds_toArray, List.set_cons_zero, List.set_cons_succ]
          refine wpAnyH_take (i := 1) (oi := ⟨some 18, _, _, _, _, _⟩) (v := ?v1) rfl (by kernel_rfl) (by kernel_rfl) (by kernel_rfl) (fun _ _ _ h => h) (Or.inl ⟨by rfl, ?h1⟩) (by assumption) ?r1
          case h1 => (intro w hSw; (try dsimp only at hSw); (first | (go_simp; done) | (go_simp; with_reducible rfl)))
          try simp only [Act.put, List.setIfInBounds_toArray, List.set_cons_zero, List.set_cons_succ]
          refine wpAnyH_take (i := 2) (oi := ⟨some 19, _, _, _, _, _⟩) (v := ?v2) rfl (by kernel_rfl) (by kernel_rfl) (by kernel_rfl) (fun _ _ _ h => h) (Or.inl ⟨by rfl, ?h2⟩) (by assumption) ?r2
          case h2 => (intro w hSw; (try dsimp only at hSw); (first | (go_simp; done) | (go_simp; with_reducible rfl)))
          try simp only [Act.put, List.setIfInBounds_toArray, List.set_cons_zero, List.set_cons_succ]
          refine wpAnyH_take (i := 3) (oi := ⟨some 20, _, _, _, _, _⟩) (v := ?v3) rfl (by kernel_rfl) (by kernel_rfl) (by kernel_rfl) (fun _ _ _ h => h) (Or.inl ⟨by rfl, ?h3⟩) (by assumption) ?r3
          case h3 => (intro w hSw; (try dsimp only at hSw); (first | (go_simp; done) | (go_simp; with_reducible rfl)))
          try simp only [Act.put, List.setIfInBounds_toArray, List.set_cons_zero, List.set_cons_succ]
          refine wpAnyH_take (i := 4) (oi := ⟨some 21, _, _, _, _, _⟩) (v := ?v4) rfl (by kernel_rfl) (by kernel_rfl) (by kernel_rfl) (fun _ _ _ h => h) (Or.inl ⟨by rfl, ?h4⟩) (by assumption) ?r4
          case h4 => (intro w hSw; (try dsimp only at hSw); (first | (go_simp; done) | (go_simp; with_reducible rfl)))
          try simp only [Act.put, List.setIfInBounds_toArray, List.set_cons_zero, List.set_cons_succ]
          refine wpAnyH_take (i := 5) (oi := ⟨some 22, _, _, _, _, _⟩) (v := ?v5) rfl (by kernel_rfl) (by kernel_rfl) (by kernel_rfl) (fun _ _ _ h => h) (Or.inl ⟨by rfl, ?h5⟩) (by assumption) ?r5
          case h5 => (intro w hSw; (try dsimp only at hSw); (first | (go_simp; done) | (go_simp; with_reducible rfl)))
          try simp only [Act.put, List.setIfInBounds_toArray, List.set_cons_zero, List.set_cons_succ]
          refine wpAnyH_take (i := 6) (oi := ⟨some 23, _, _, _, _, _⟩) (v := ?v6) rfl (by kernel_rfl) (by kernel_rfl) (by kernel_rfl) (fun _ _ _ h => h) (Or.inl ⟨by rfl, ?h6⟩) (by assumption) ?r6
          case h6 => (intro w hSw; (try dsimp only at hSw); (first | (go_simp; done) | (go_simp; with_reducible rfl)))
          try simp only [Act.put, List.setIfInBounds_toArray, List.set_cons_zero, List.set_cons_succ]
          refine wpAnyH_take (i := 7) (oi := ⟨some 24, _, _, _, _, _⟩) (v := ?v7) rfl (by kernel_rfl) (by kernel_rfl) (by kernel_rfl) (fun _ _ _ h => h) (Or.inl ⟨by rfl, ?h7⟩) (by assumption) ?r7
          case h7 => (intro w hSw; (try dsimp only at hSw); (first | (go_simp; done) | (go_simp; with_reducible rfl)))
          try simp only [Act.put, List.setIfInBounds_toArray, List.set_cons_zero, List.set_cons_succ]
          refine wpAnyH_ready (rs := [8]) (by kernel_rfl) (by simp) ?_
          refine AllReadyH.cons (o := ⟨some 25, _, _, _, _, _⟩) (rs := []) rfl (fun K hK => ?_) AllReadyH.nil
          go_simp
          go_at_call 15
          refine Hs.out.mono ?_
          rintro e V ⟨rfl, hbV⟩
          obtain ⟨z6, ⟨z0, z1, z2⟩, z3, z4, z5⟩ := Hkeep.out V hbV
          have HbV := hide z6
          clear hbV z6
          try go_wp2_with fail
          clear hHeld
          refine hK.out _ _ ?_ (fun hHeld => ?_)
          · (try dsimp only); go_keep
          clear hK K
          try simp only [Act.put, List.setIfInBounds_toArray, List.set_cons_zero, List.set_cons_succ]
          refine wpAnyH_take (i := 9) (oi := ⟨some 26, _, _, _, _, _⟩) (v := ?v9) rfl (by kernel_rfl) (by kernel_rfl) (by kernel_rfl) (fun _ _ _ h => h) (Or.inl ⟨by rfl, ?h9⟩) (by assumption) ?r9
          case h9 => (intro w hSw; (try dsimp only at hSw); (first | (go_simp; done) | (go_simp; with_reducible rfl)))
          try simp only [Act.put, List.setIfInBounds_toArray, List.set_cons_zero, List.set_cons_succ]
          refine wpAnyH_take (i := 10) (oi := ⟨some 27, _, _, _, _, _⟩) (v := ?v10) rfl (by kernel_rfl) (by kernel_rfl) (by kernel_rfl) (fun _ _ _ h => h) (Or.inl ⟨by rfl, ?h10⟩) (by assumption) ?r10
          case h10 => (intro w hSw; (try dsimp only at hSw); (first | (go_simp; done) | (go_simp; with_reducible rfl)))
          try simp only [Act.put, List.setIfInBounds_toArray, List.set_cons_zero, List.set_cons_succ]
          refine wpAnyH_take (i := 11) (oi := ⟨some 28, _, _, _, _, _⟩) rfl (by kernel_rfl) (by kernel_rfl) (by kernel_rfl) (fun _ _ _ h => h) (Or.inr ⟨by rfl, rfl⟩) (by assumption) ?_
          try simp only [Act.put, List.setIfInBounds_toArray, List.set_cons_zero, List.set_cons_succ]
          refine wpAnyH_take (i := 12) (oi := ⟨some 29, _, _, _, _, _⟩) rfl (by kernel_rfl) (by kernel_rfl) (by kernel_rfl) (fun _ _ _ h => h) (Or.inr ⟨by rfl, rfl⟩) (by assumption) ?_
          try simp only [Act.put, List.setIfInBounds_toArray, List.set_cons_zero, List.set_cons_succ]
          refine wpAnyH_take (i := 13) (oi := ⟨some 30, _, _, _, _, _⟩) rfl (by kernel_rfl) (by kernel_rfl) (by kernel_rfl) (fun _ _ _ h => h) (Or.inr ⟨by rfl, rfl⟩) (by assumption) ?_
          try simp only [Act.put, List.setIfInBounds_toArray, List.set_cons_zero, List.set_cons_succ]
          refine wpAnyH_take (i := 14) (oi := ⟨some 31, _, _, _, _, _⟩) rfl (by kernel_rfl) (by kernel_rfl) (by kernel_rfl) (fun _ _ _ h => h) (Or.inr ⟨by rfl, rfl⟩) (by assumption) ?_
          try simp only [Act.put, List.setIfInBounds_toArray, List.set_cons_zero, List.set_cons_succ]
          refine wpAnyH_take (i := 15) (oi := ⟨some 32, _, _, _, _, _⟩) rfl (by kernel_rfl) (by kernel_rfl) (by kernel_rfl) (fun _ _ _ h => h) (Or.inr ⟨by rfl, rfl⟩) (by assumption) ?_
          try simp only [Act.put, List.setIfInBounds_toArray, List.set_cons_zero, List.set_cons_succ]
          refine wpAnyH_take (i := 16) (oi := ⟨some 33, _, _, _, _, _⟩) rfl (by kernel_rfl) (by kernel_rfl) (by kernel_rfl) (fun _ _ _ h => h) (Or.inr ⟨by rfl, rfl⟩) (by assumption) ?_
          try simp only [Act.put, List.setIfInBounds_toArray, List.set_cons_zero, List.set_cons_succ]
          refine wpAnyH_take (i := 17) (oi := ⟨some 34, _, _, _, _, _⟩) rfl (by kernel_rfl) (by kernel_rfl) (by kernel_rfl) (fun _ _ _ h => h) (Or.inr ⟨by rfl, rfl⟩) (by assumption) ?_
          try simp only [Act.put, List.setIfInBounds_toArray, List.set_cons_zero, List.set_cons_succ]
          refine wpAnyH_take (i := 18) (oi := ⟨some 35, _, _, _, _, _⟩) rfl (by kernel_rfl) (by kernel_rfl) (by kernel_rfl) (fun _ _ _ h => h) (Or.inr ⟨by rfl, rfl⟩) (by assumption) ?_
          try simp only [Act.put, List.setIfInBounds_toArray, List.set_cons_zero, List.set_cons_succ]
          refine wpAnyH_take (i := 19) (oi := ⟨some 36, _, _, _, _, _⟩) rfl (by kernel_rfl) (by kernel_rfl) (by kernel_rfl) (fun _ _ _ h => h) (Or.inr ⟨by rfl, rfl⟩) (by assumption) ?_
          try simp only [Act.put, List.setIfInBounds_toArray, List.set_cons_zero, List.set_cons_succ]
          refine wpAnyH_take (i := 20) (oi := ⟨some 37, _, _, _, _, _⟩) rfl (by kernel_rfl) (by kernel_rfl) (by kernel_rfl) (fun _ _ _ h => h) (Or.inr ⟨by rfl, rfl⟩) (by assumption) ?_
          try simp only [Act.put, List.setIfInBounds_toArray, List.set_cons_zero, List.set_cons_succ]
          refine wpAnyH_take (i := 21) (oi := ⟨some 38, _, _, _, _, _⟩) rfl (by kernel_rfl) (by kernel_rfl) (by kernel_rfl) (fun _ _ _ h => h) (Or.inr ⟨by rfl, rfl⟩) (by assumption) ?_
          try simp only [Act.put, List.setIfInBounds_toArray, List.set_cons_zero, List.set_cons_succ]
          refine wpAnyH_take (i := 22) (oi := ⟨some 39, _, _, _, _, _⟩) (v := ?v22) rfl (by kernel_rfl) (by kernel_rfl) (by kernel_rfl) (fun _ _ _ h => h) (Or.inl ⟨by rfl, ?h22⟩) (by assumption) ?r22
          case h22 => (intro w hSw; (try dsimp only at hSw); (first | (go_simp; done) | (go_simp; with_reducible rfl)))
          try simp only [Act.put, List.setIfInBounds_toArray, List.set_cons_zero, List.set_cons_succ]
          refine wpAnyH_done (by kernel_rfl) ?_ _
          refine NoPanic.normal ?_
          clear hHeld z0 z1 z2 z3 z4 z5 x0 x1 x2 y0 y1 y2 Hkeep Hs
          all_goals
            go_wp2
            go_ret
            refine ⟨?_, HbV.out⟩
            rw [decide_eq_false (fun h => ?_)]
            · rfl
            · have := map_get h (by omega) h2
              rw [HA.out, HB.out] at this
              exact of_decide_eq_false Hsm.out (hco.out.1 this).1
      · obtain rfl : k = l.length := by omega
        go_wp2
        go_ret
        refine ⟨?_, hb.out⟩
        rw [decide_eq_true (map_eq HN.out fun j j1 j2 => hq.out j j1 j2 j1)]
        rfl
  · have hnb : ((l.length : Int) != (m.length : Int)) = true := by rw [bne_iff_ne]; omega
    have HN := hide hn
    clear hx hy hn
    go_enter Try.func19, Try.ntmps19
    go_wp2
    go_ret
    exact ⟨by rw [decide_eq_false (fun h => HN.out (by simpa using congrArg List.length h))]; rfl, Below.refl _ _⟩
end Go.Proofs.Ytelgajgghgknnaa
