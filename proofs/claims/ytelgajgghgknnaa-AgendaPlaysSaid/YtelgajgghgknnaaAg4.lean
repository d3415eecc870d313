/- The contracts of an agenda's Fire and Next. -/
import Derived.Test.YtelgajgghgknnaaAg3
namespace Go.Proofs.Ytelgajgghgknnaa
open Go Go.RowKit Go.MapKept Go.Sort

/-- One is fired. -/
def En.fire (e : En) : En := { e with fired := true }
def fireAt (l : List En) (x : Ac) : List En := match l.findIdx? (fun e => e.ac.same x) with | some i => l.modify i En.fire | none => l

theorem eflat_fire : ∀ (l : List En) (i : Nat), i < l.length → eflat (l.modify i En.fire) = (eflat l).set (i * 4 + 3) (.bool true)
  | [], i, h => absurd h (Nat.not_lt_zero i)
  | e :: l, 0, _ => rfl
  | e :: l, i + 1, h => by
    have ih := eflat_fire l i (by simpa using h)
    simp only [List.modify_succ_cons, eflat, ih]
    rw [show (i + 1) * 4 + 3 = i * 4 + 3 + 4 by omega]
    rfl

theorem modify_tups (l : List En) (i : Nat) {p : Ac → Prop} (h : ∀ e ∈ l, p e.ac) : ∀ e ∈ l.modify i En.fire, p e.ac := by
  intro e he
  obtain ⟨j, hj, rfl⟩ := List.getElem_of_mem he
  rw [List.getElem_modify]
  have hj' : j < l.length := by simpa using hj
  split
  · exact h l[j] (List.getElem_mem hj')
  · exact h l[j] (List.getElem_mem hj')

theorem ag_fire {B b : Nat} {w : World} {s : Int} {g n cap : Nat} {l : List En} {i : Nat} (h : AgIs B w b s (.slice (some ⟨g, 0, none⟩) n cap) l) (hi : i < l.length) : AgIs B (w.setCell ⟨g, i * 4 + 3, none⟩ (.bool true)) b s (.slice (some ⟨g, 0, none⟩) n cap) (l.modify i En.fire) := by
  have hgb : g ≠ b := fun e => owns_not h.ens.own h.blk (by decide) (by rw [← e]; rfl)
  have ho : Only [g] w (w.setCell ⟨g, i * 4 + 3, none⟩ (.bool true)) := (Only.refl [g] w).setCell (.inl (by simp)) _
  refine ⟨(ho.block b (lt_of_heap h.blk) (by simpa using fun e => hgb e.symm)).trans h.blk, h.hB, ⟨by rw [List.length_modify]; exact h.ens.len, ?_, ?_⟩⟩
  · have hlen := eflat_length l
    rcases h.ens.own.2 with ⟨e, _⟩ | ⟨g', cap', cur, e, hB, hg, hc, hm, hs, ht⟩
    · cases e
    · have e1 : g' = g := by cases e; rfl
      subst e1
      refine ⟨eflat_length _, .inr ⟨g', cap', cur.setIfInBounds (i * 4 + 3) (.bool true), by simpa using e, hB, setCell_heap hg, by simpa using hc, hm, by simpa using hs, ?_⟩⟩
      rw [eflat_fire l i hi, Array.toList_setIfInBounds, List.take_set, List.length_modify, ht]
  · refine modify_tups l i (p := fun a => a.tup.length ≤ 1000000 ∧ (w.setCell ⟨g, i * 4 + 3, none⟩ (.bool true)).ownsRow B 3 1 a.x a.tup.length (a.tup.map (.int .i64))) fun e he => ?_
    exact ⟨(h.ens.tups e he).1, owns_only (h.ens.tups e he).2 ho (fun k hk => by
      have := owns_ne (by decide : 3 ≠ 61) (h.ens.tups e he).2 h.ens.own hk
      simp only [Value.ownBlock, ne_eq, Option.some.injEq] at this
      simpa using fun e => this e.symm)⟩

theorem fire_any (B b : Nat) (s : Int) (v : Value) (l : List En) (x : Ac) (w : World) (h : AgIs B w b s v l) (hx : NIs w x.x x.tup) :
    Calls Try.prog 14 #[.pointer (some ⟨b, 0, none⟩), x.val] w fun r w' => r = .returned (.bool (hasE l x && !firedE l x)) ∧ AgIs B w' b s v (if hasE l x && !firedE l x then fireAt l x else l) ∧ AgOnly b v w w' := by
  have hltb := lt_of_heap h.blk
  obtain ⟨rx, lx, sx, vx⟩ := x
  simp only at hx
  obtain ⟨xa, xc, rfl⟩ := hx.form
  obtain ⟨W, hW⟩ : ∃ W, w.alloc (Obj.cells #[.int .i64 rx, .slice xa lx.length xc, .int .i64 sx] 27) = W := ⟨_, rfl⟩
  have hb1 : Below w.heap.size w W := by rw [← hW]; exact ((Only.refl [] w).alloc _).below
  have hbox := heap_alloc0 w (Obj.cells #[.int .i64 rx, .slice xa lx.length xc, .int .i64 sx] 27)
  have hsz : W.heap.size = w.heap.size + 1 := by rw [← hW]; simp
  rw [hW] at hbox
  obtain ⟨c0, c1, c2, _⟩ := cells3a hbox
  have hz : w.heap.size < W.heap.size := by omega
  have hkeep : ∀ V, Below W.heap.size W V → V.cell? ⟨w.heap.size, 0, none⟩ = some (.int .i64 rx) ∧ V.cell? ⟨w.heap.size, 1, none⟩ = some (.slice xa lx.length xc) ∧ V.cell? ⟨w.heap.size, 2, none⟩ = some (.int .i64 sx) := fun V hV =>
    ⟨(hV.cell (p := ⟨w.heap.size, 0, none⟩) hz).trans c0, (hV.cell (p := ⟨w.heap.size, 1, none⟩) hz).trans c1, (hV.cell (p := ⟨w.heap.size, 2, none⟩) hz).trans c2⟩
  have hhas := has_any B b s v l ⟨rx, lx, sx, .slice xa lx.length xc⟩ W (h.below hb1) (hx.below hb1)
  have HW := hide hW
  have Hkeep := hide hkeep
  have H := hide h
  have HX := hide hx
  have HB1 := hide hb1
  obtain ⟨va, vc, rfl, _⟩ := h.ens.form
  have hfd : ∀ V, Below W.heap.size W V → Calls Try.prog 16 #[.pointer (some ⟨b, 0, none⟩), .agg #[.int .i64 rx, .slice xa lx.length xc, .int .i64 sx]] V fun r w' => r = .returned (.bool (firedE l ⟨rx, lx, sx, .slice xa lx.length xc⟩)) ∧ Below W.heap.size W w' := fun V hV => by
    have := fired_any B b s _ l ⟨rx, lx, sx, .slice xa lx.length xc⟩ V (h.below (hb1.trans (hV.mono (by omega)))) (hx.below (hb1.trans (hV.mono (by omega))))
    unfold Ac.val at this
    exact this.mono fun r w' ⟨h1, h2⟩ => ⟨h1, hV.trans (h2.mono hV.size)⟩
  unfold Ac.val at hhas ⊢
  rcases idx_cases l ⟨rx, lx, sx, .slice xa lx.length xc⟩ with ⟨e1, e2⟩ | ⟨i, hi, e1, e2⟩
  · have hno : hasE l ⟨rx, lx, sx, .slice xa lx.length xc⟩ = false := any_idx.1 e2
    rw [hno] at hhas ⊢
    simp only [Bool.false_and, Bool.false_eq_true, if_false]
    have Hhas := hide hhas
    clear hhas hfd hno e1 e2 hx h hb1 hW hbox hkeep c0 c1 c2
    go_enter Try.func14, Try.ntmps14
    go_upto_region 1 with fail
    rw [HW.out]
    obtain ⟨k0, k1, k2⟩ := Hkeep.out W (Below.refl _ _)
    go_wp2_with fail
    refine Hhas.out.mono ?_
    rintro r V ⟨rfl, hbV⟩
    have HF := hide (HB1.out.trans (hbV.mono (by omega)))
    clear hbV k0 k1 k2
    go_wp2
    go_ret
    exact ⟨rfl, H.out.below HF.out, Only.of_below HF.out _⟩
  · have hyes : hasE l ⟨rx, lx, sx, .slice xa lx.length xc⟩ = true := any_idx.2 i e2
    have hfa : fireAt l ⟨rx, lx, sx, .slice xa lx.length xc⟩ = l.modify i En.fire := by unfold fireAt; rw [e2]
    rw [hyes] at hhas
    rw [hyes, hfa]
    simp only [Bool.true_and]
    have Hhas := hide hhas
    obtain ⟨p, hp⟩ : ∃ p, firedE l ⟨rx, lx, sx, .slice xa lx.length xc⟩ = p := ⟨_, rfl⟩
    rw [hp] at hfd ⊢
    have Hfd := hide hfd
    have hfind : ∀ V, Below W.heap.size W V → Calls Try.prog 35 #[.pointer (some ⟨b, 0, none⟩), .agg #[.int .i64 rx, .slice xa lx.length xc, .int .i64 sx]] V fun r w' => r = .returned (.int .i64 i) ∧ Below W.heap.size W w' := fun V hV => by
      have := find_any B b s _ l ⟨rx, lx, sx, .slice xa lx.length xc⟩ V (h.below (hb1.trans (hV.mono (by omega)))) (hx.below (hb1.trans (hV.mono (by omega))))
      rw [e1] at this
      unfold Ac.val at this
      exact this.mono fun r w' ⟨h1, h2⟩ => ⟨h1, hV.trans (h2.mono hV.size)⟩
    obtain ⟨g, cap, ya, yc, e, _, _, _, _, _, _⟩ := h.ens.at hi
    injection e with q1 q2 q3
    subst q1 q3
    have hrow : ∀ V, Below W.heap.size W V → V.cell? ⟨b, 1, none⟩ = some (.slice (some ⟨g, 0, none⟩) l.length vc) ∧ V.cell? ⟨g, i * 4 + 3, none⟩ = some (.bool l[i].fired) ∧ V.frozen? ⟨g, i * 4 + 3, none⟩ = false := fun V hV => by
      have hA := h.below (hb1.trans (hV.mono (by omega)))
      obtain ⟨g', cap', ya', yc', e', _, _, _, _, ⟨_, _, _, c3⟩, hfz⟩ := hA.ens.at hi
      injection e' with q1 q2 q3
      injection q1 with q1
      injection q1 with q1 q4 q5
      subst q1
      exact ⟨(cells2e hA.blk).2.1, c3, hfz⟩
    have Hfind := hide hfind
    have Hrow := hide hrow
    have i1 : (0 : Int) ≤ (i : Int) := by omega
    have i2 : (i : Int) < (l.length : Int) := by omega
    have hgb : g ≠ b := fun e => owns_not h.ens.own h.blk (by decide) (by rw [← e]; rfl)
    have hgw : g ≠ w.heap.size := fun e => by have := (h.ens.own.lt g rfl).2; omega
    clear hhas hfd hyes hfa e1 e2 hx h hb1 hW hbox hkeep c0 c1 c2 hfind hrow q2 hp
    go_enter Try.func14, Try.ntmps14
    go_upto_region 1 with fail
    rw [HW.out]
    obtain ⟨k0, k1, k2⟩ := Hkeep.out W (Below.refl _ _)
    go_wp2_with fail
    refine Hhas.out.mono ?_
    rintro r V ⟨rfl, hbV⟩
    have HbV := hide hbV
    clear k0 k1 k2
    obtain ⟨k0, k1, k2⟩ := Hkeep.out V hbV
    clear hbV
    go_wp2_with fail
    refine (Hfd.out _ HbV.out).mono ?_
    rintro r V2 ⟨rfl, hbV2⟩
    have HbV2 := hide hbV2
    clear k0 k1 k2 hbV2
    cases p
    · obtain ⟨k0, k1, k2⟩ := Hkeep.out V2 HbV2.out
      obtain ⟨d0, d1, d2⟩ := Hrow.out V2 HbV2.out
      have HbV2d : Hid (Below W.heap.size W V2.drew) := hide ⟨HbV2.out.os, HbV2.out.tape, HbV2.out.output, HbV2.out.size, HbV2.out.block⟩
      go_wp2_with fail
      go_region_held3 (fun V => V.cell? ⟨w.heap.size, 0, none⟩ = some (.int .i64 rx) ∧ V.cell? ⟨w.heap.size, 1, none⟩ = some (.slice xa lx.length xc) ∧ V.cell? ⟨w.heap.size, 2, none⟩ = some (.int .i64 sx) ∧ V.cell? ⟨b, 1, none⟩ = some (.slice (some ⟨g, 0, none⟩) l.length vc)) (go_keep)
        ((go_at_call 35; have hqq := Hfind.out _ HbV2d.out; with_reducible refine Calls.mono hqq ?_; clear hqq; rintro r V3 ⟨rfl, hbV⟩; obtain ⟨x0, x1, x2⟩ := Hkeep.out V3 hbV; obtain ⟨x3, x4, x5⟩ := Hrow.out V3 hbV; have HbV3 := hide hbV; clear hbV))
      have hB3 := HB1.out.trans (HbV3.out.mono (by omega))
      have hfin := hide (ag_fire (H.out.below hB3) hi)
      have honly : Hid (AgOnly b (.slice (some ⟨g, 0, none⟩) l.length vc) w (V3.setCell ⟨g, i * 4 + 3, none⟩ (.bool true))) := hide ((Only.of_below hB3 _).setCell (.inl (by simp [Value.ownBlock])) _)
      clear hB3 x0 x1 x2 x3 x4 x5 k0 k1 k2 d0 d1 d2
      go_wp2
      go_ret
      exact ⟨rfl, hfin.out, honly.out⟩
    · have HF := hide (HB1.out.trans (HbV2.out.mono (by omega)))
      go_wp2
      go_ret
      exact ⟨rfl, H.out.below HF.out, Only.of_below HF.out _⟩
end Go.Proofs.Ytelgajgghgknnaa
