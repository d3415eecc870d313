/- The contracts of witanref29: Same, SameAll. -/
import Derived.Test.YtmcajoccfbebiaaTr12
import Derived.Test.YtmcajoccfbebiaaRowsN
import Derived.BigRegion
namespace Go.Proofs.Ytmcajoccfbebiaa
open Go Go.RowKit Go.MapKept Go.Sort

theorem rsame29_any (a b : Jc) (w : World) (ha : NIs w a.x a.tup) (hb : NIs w b.x b.tup) :
    Calls Try.prog 69 #[a.val, b.val] w fun e w' => e = .returned (.bool (decide (a.rule = b.rule ∧ a.tup = b.tup))) ∧ Below w.heap.size w w' := by
  obtain ⟨ra, l, xa⟩ := a
  obtain ⟨rb, m, xb⟩ := b
  simp only at ha hb
  obtain ⟨xaa, xac, rfl⟩ := ha.form
  obtain ⟨xba, xbc, rfl⟩ := hb.form
  have o2 : Below w.heap.size w ((w.alloc (Obj.cells #[.int .i64 ra, .slice xaa l.length xac] 53)).alloc (Obj.cells #[.int .i64 rb, .slice xba m.length xbc] 53)) := (((Only.refl [] w).alloc _).alloc _).below
  have heq := rows_any _ _ l m _ (ha.below o2) (hb.below o2)
  have hz := cmpL_zero l m
  have Heq := hide heq
  have O2 := hide o2
  clear ha hb heq o2
  unfold Jc.val
  by_cases hr : ra = rb
  · subst hr
    obtain ⟨q, hq⟩ : ∃ q, cmpL l m = q := ⟨_, rfl⟩
    rw [hq] at Heq hz
    have Hz := hide hz
    clear hz hq
    by_cases h0 : q = 0
    · have hb1 : (q == 0) = true := by simpa using h0
      have H0 := hide h0
      clear h0
      go_enter Try.func69, Try.ntmps69
      go_wp2_with fail
      refine Heq.out.mono ?_
      rintro e w' ⟨rfl, hb⟩
      have HB := hide (O2.out.trans (hb.mono O2.out.size))
      clear hb
      go_wp2
      go_ret
      exact ⟨by simp only [true_and]; rw [decide_eq_true (Hz.out.1 H0.out)]; rfl, HB.out⟩
    · have hb1 : (q == 0) = false := by simpa using h0
      have H0 := hide h0
      clear h0
      go_enter Try.func69, Try.ntmps69
      go_wp2_with fail
      refine Heq.out.mono ?_
      rintro e w' ⟨rfl, hb⟩
      have HB := hide (O2.out.trans (hb.mono O2.out.size))
      clear hb
      go_wp2
      go_ret
      exact ⟨by simp only [true_and]; rw [decide_eq_false (fun h => H0.out (Hz.out.2 h))]; rfl, HB.out⟩
  · have hrb : (ra == rb) = false := by simpa using hr
    have Hr := hide hr
    clear hr hz
    go_enter Try.func69, Try.ntmps69
    go_wp2
    go_ret
    exact ⟨by rw [decide_eq_false (fun h => Hr.out h.1)]; rfl, O2.out⟩

theorem co_eq29 (a b : Jc) : a.co = b.co ↔ a.rule = b.rule ∧ a.tup = b.tup := by
  unfold Jc.co
  rw [Prod.mk.injEq]
theorem map_get {α β : Type} {f : α → β} {l m : List α} (h : l.map f = m.map f) {k : Nat} (h1 : k < l.length) (h2 : k < m.length) : f l[k] = f m[k] := by
  have := congrArg (fun q => q[k]?) h
  simpa [h1, h2] using this
theorem map_eq {α β : Type} {f : α → β} {l m : List α} (hn : l.length = m.length) (h : ∀ j (h1 : j < l.length) (h2 : j < m.length), f l[j] = f m[j]) : l.map f = m.map f :=
  List.ext_getElem (by simpa using hn) fun i h1 h2 => by simpa using h i (by simpa using h1) (by simpa using h2)

set_option maxHeartbeats 4000000 in
theorem sameAll29_any (x y : Value) (l m : List Jc) (w : World) (hx : JsIs w x l) (hy : JsIs w y m) :
    Calls Try.prog 36 #[x, y] w fun e w' => e = .returned (.bool (decide (l.map Jc.co = m.map Jc.co))) ∧ Below w.heap.size w w' := by
  obtain ⟨xa, xc, rfl⟩ := hx.form
  obtain ⟨ya, yc, rfl⟩ := hy.form
  have hlx := hx.len
  have hly := hy.len
  by_cases hn : l.length = m.length
  · have hnb : ((l.length : Int) != (m.length : Int)) = false := by rw [hn]; simp
    have HN := hide hn
    have hle : m.length ≤ l.length := by omega
    have hle2 : l.length ≤ m.length := by omega
    have Hx := hide hx
    have Hy := hide hy
    clear hx hy hn
    go_enter Try.func36, Try.ntmps36
    go_wp2
    go_loopw [5] (fun i wr => ∃ k : Nat, k ≤ l.length ∧ i = .int .i64 k ∧ Hid (∀ j (h1 : j < l.length) (h2 : j < m.length), j < k → l[j].co = m[j].co) ∧ Hid (Below w.heap.size w wr)) (fun i _ => l.length - (intOf i).toNat)
    case atStart => exact ⟨0, Nat.zero_le _, rfl, fun j _ _ h => by omega, Below.refl _ _⟩
    case round =>
      obtain ⟨k, hk, rfl, hq, hb⟩ := hrel
      by_cases h1 : k < l.length
      · have h2 : k < m.length := by omega
        have hX := Hx.out.keeps (KeepsCells.below hb.out)
        have hY := Hy.out.keeps (KeepsCells.below hb.out)
        obtain ⟨b, o, cp, pa, pc, e, hpx, x0, x1⟩ := hX.at h1
        injection e with e1 e2 e3
        subst e1 e3
        clear e2
        obtain ⟨b', o', cp', qa, qc, e, hqx, y0, y1⟩ := hY.at h2
        injection e with e1 e2 e3
        subst e1 e3
        clear e2
        have nx := hX.tups _ (List.getElem_mem h1)
        have ny := hY.tups _ (List.getElem_mem h2)
        obtain ⟨A, hA⟩ : ∃ A, l[k] = A := ⟨_, rfl⟩
        obtain ⟨B, hB⟩ : ∃ B, m[k] = B := ⟨_, rfl⟩
        rw [hA] at hpx x0 x1 nx
        rw [hB] at hqx y0 y1 ny
        obtain ⟨ra, ta, xa'⟩ := A
        obtain ⟨rb, tb, xb'⟩ := B
        simp only at hpx x0 x1 nx hqx y0 y1 ny
        subst hpx hqx
        have hs := rsame29_any ⟨ra, ta, .slice pa ta.length pc⟩ ⟨rb, tb, .slice qa tb.length qc⟩ wr.drew (nx.only0 ((Only.refl _ _).drew)) (ny.only0 ((Only.refl _ _).drew))
        simp only [Jc.val] at hs
        have HA := hide hA
        have HB := hide hB
        have hco := hide (co_eq29 l[k] m[k])
        rw [hA, hB] at hco
        simp only at hco
        obtain ⟨sm, hsm⟩ : ∃ sm, decide (ra = rb ∧ ta = tb) = sm := ⟨_, rfl⟩
        rw [hsm] at hs
        have Hs := hide hs
        have Hsm := hide hsm
        have hkeep : ∀ V, Below wr.drew.heap.size wr.drew V → Below w.heap.size w V ∧ (V.cell? ⟨b, o + k * 2, none⟩ = some (.int .i64 ra) ∧ V.cell? ⟨b, o + k * 2 + 1, none⟩ = some (.slice pa ta.length pc)) ∧
            (V.cell? ⟨b', o' + k * 2, none⟩ = some (.int .i64 rb) ∧ V.cell? ⟨b', o' + k * 2 + 1, none⟩ = some (.slice qa tb.length qc)) := fun V hv =>
          ⟨hb.out.trans ((show Below wr.heap.size wr V from ⟨hv.os, hv.tape, hv.output, hv.size, hv.block⟩).mono hb.out.size), ⟨(hv.cell (p := ⟨b, o + k * 2, none⟩) (lt_of_cell x0)).trans x0, (hv.cell (p := ⟨b, o + k * 2 + 1, none⟩) (lt_of_cell x1)).trans x1⟩,
            (hv.cell (p := ⟨b', o' + k * 2, none⟩) (lt_of_cell y0)).trans y0, (hv.cell (p := ⟨b', o' + k * 2 + 1, none⟩) (lt_of_cell y1)).trans y1⟩
        have Hkeep := hide hkeep
        clear hX hY nx ny hA hB hs hsm hkeep
        have i1 : (k : Int) < (l.length : Int) := by omega
        have i2 : (k : Int) < (m.length : Int) := by omega
        have i3 : (0 : Int) ≤ (k : Int) := by omega
        cases sm with
        | true =>
          go_wp2_with fail
          go_region_held3 (fun V => V.cell? ⟨b, o + k * 2, none⟩ = some (.int .i64 ra) ∧ V.cell? ⟨b, o + k * 2 + 1, none⟩ = some (.slice pa ta.length pc) ∧ V.cell? ⟨b', o' + k * 2, none⟩ = some (.int .i64 rb) ∧ V.cell? ⟨b', o' + k * 2 + 1, none⟩ = some (.slice qa tb.length qc)) (go_keep)
            ((go_at_call 69; have hqq := Hs.out; with_reducible refine Calls.mono hqq ?_; clear hqq; rintro e V ⟨rfl, hbV⟩; obtain ⟨z6, ⟨z0, z1⟩, z3, z4⟩ := Hkeep.out V hbV; have HbV := hide z6; clear hbV z6))
          clear z0 z1 z3 z4 x0 x1 Hkeep Hs
          go_wp2
          go_roundw
          case rel =>
            refine ⟨k + 1, by omega, by go_num, fun j j1 j2 hj => ?_, HbV.out⟩
            rcases Nat.lt_or_ge j k with q | q
            · exact hq.out j j1 j2 q
            · obtain rfl : j = k := by omega
              rw [HA.out, HB.out]
              exact hco.out.2 (of_decide_eq_true Hsm.out)
          case measure => simp [intOf]; omega
        | false =>
          go_wp2_with fail
          go_region_held3 (fun V => V.cell? ⟨b, o + k * 2, none⟩ = some (.int .i64 ra) ∧ V.cell? ⟨b, o + k * 2 + 1, none⟩ = some (.slice pa ta.length pc) ∧ V.cell? ⟨b', o' + k * 2, none⟩ = some (.int .i64 rb) ∧ V.cell? ⟨b', o' + k * 2 + 1, none⟩ = some (.slice qa tb.length qc)) (go_keep)
            ((go_at_call 69; have hqq := Hs.out; with_reducible refine Calls.mono hqq ?_; clear hqq; rintro e V ⟨rfl, hbV⟩; obtain ⟨z6, ⟨z0, z1⟩, z3, z4⟩ := Hkeep.out V hbV; have HbV := hide z6; clear hbV z6))
          clear z0 z1 z3 z4 x0 x1 Hkeep Hs
          go_wp2
          go_ret
          refine ⟨?_, HbV.out⟩
          rw [decide_eq_false (fun h => ?_)]
          · rfl
          · have := map_get h (by omega) h2
            rw [HA.out, HB.out] at this
            have h3 := hco.out.1 this
            rw [decide_eq_true h3] at Hsm
            cases Hsm.out
      · obtain rfl : k = l.length := by omega
        go_wp2
        go_ret
        refine ⟨?_, hb.out⟩
        rw [decide_eq_true (map_eq HN.out fun j j1 j2 => hq.out j j1 j2 j1)]
        rfl
  · have hnb : ((l.length : Int) != (m.length : Int)) = true := by rw [bne_iff_ne]; omega
    have HN := hide hn
    clear hx hy hn
    go_enter Try.func36, Try.ntmps36
    go_wp2
    go_ret
    refine ⟨?_, Below.refl _ _⟩
    rw [decide_eq_false (fun h => HN.out (by simpa using congrArg List.length h))]
    rfl
end Go.Proofs.Ytmcajoccfbebiaa
