/- The walk of witanlaw05.MemoryOrder. -/
import Derived.Test.YteealadflekffaaRuns
import Derived.Deep.RegionHeld3
namespace Go.Proofs.Yteealadflekffaa
open Go Go.RowKit Go.MapKept

/-- Is a fact of this id in the list? -/
def hasId (l : List Fc) (id : Int) : Bool := l.any (fun f => f.id == id)
theorem hasId_snoc (l : List Fc) (f : Fc) (id : Int) : hasId (l ++ [f]) id = (hasId l id || f.id == id) := by simp [hasId]
theorem hasId_yes {l : List Fc} {id : Int} (h : hasId l id = true) : ∃ f, f ∈ l ∧ f.id = id := by simpa [hasId] using h
theorem hasId_no {l : List Fc} {id : Int} (h : hasId l id = false) : ∀ f ∈ l, f.id ≠ id := by simpa [hasId] using h

theorem says_at {out l : List Fc} (h : out.map Fc.says = l.map Fc.says) : out.length = l.length ∧ ∀ k (h1 : k < out.length) (h2 : k < l.length), out[k].id = l[k].id ∧ out[k].t = l[k].t ∧ out[k].s = l[k].s := by
  have hl : out.length = l.length := by simpa using congrArg List.length h
  refine ⟨hl, fun k h1 h2 => ?_⟩
  have := congrArg (fun q => q[k]?) h
  simp only [List.getElem?_map, List.getElem?_eq_getElem h1, List.getElem?_eq_getElem h2, Option.map_some, Option.some.injEq, Fc.says, Prod.mk.injEq] at this
  exact this

/-- What a slice of facts holds at k. -/
theorem FactsIs.at {w : World} {B n c : Nat} {g : Nat} {out : List Fc} (h : FactsIs w B (.slice (some ⟨g, 0, none⟩) n c) out) (k : Nat) (hk : k < out.length) :
    w.cell? ⟨g, k * 3, none⟩ = some (.int .i64 out[k].id) ∧ w.cell? ⟨g, k * 3 + 1, none⟩ = some (.int .i64 out[k].t) ∧ w.cell? ⟨g, k * 3 + 2, none⟩ = some out[k].x := by
  obtain ⟨h0, h1, h2⟩ := fflat_get out k hk
  have c := fun j v (hj : (fflat out)[j]? = some v) => h.own.cells (g := g) rfl j v hj
  simp only [Addr.add_lit, Nat.zero_add] at c
  exact ⟨c _ _ h0, c _ _ h1, c _ _ h2⟩

theorem FactsIs.cases {w : World} {B : Nat} {v : Value} {out : List Fc} (h : FactsIs w B v out) :
    (v = .slice none 0 0 ∧ out = []) ∨ ∃ g c, v = .slice (some ⟨g, 0, none⟩) out.length c ∧ B ≤ g ∧ g < w.heap.size := by
  rcases h.own.2 with ⟨rfl, hn⟩ | ⟨g, cap, cur, rfl, hb, hg, _⟩
  · have h0 : out = [] := List.eq_nil_of_length_eq_zero hn
    exact .inl ⟨rfl, h0⟩
  · exact .inr ⟨g, cap, rfl, hb, lt_of_heap hg⟩

set_option maxRecDepth 100000 in
set_option maxHeartbeats 0 in
theorem order_walk (v : Value) (l : List OpD) (id : Int) (w : World) (hl : OpsIs w v l) :
    Calls Try.prog 7 #[v, .int .i64 id] w fun e w' => e = .returned (.bool true) ∧ Below w.heap.size w w' := by
  have hlen := hl.1
  obtain ⟨a, c, rfl⟩ := hl.form
  have Hl := hide hl
  clear hl
  by_cases hbig : (l.length : Int) > 100
  · go_enter Try.func7, Try.ntmps7
    go_wp2_with (go_at_call 16; refine (known5 _).mono ?_; rintro e w' ⟨rfl, hb⟩)
    go_ret
    exact ⟨rfl, hb⟩
  · go_enter Try.func7, Try.ntmps7
    go_wp2_with fail
    go_loopw [23] (fun i wr => ∃ k : Nat, k ≤ l.length ∧ i = .int .i64 k ∧ Hid (∀ j (h : j < l.length), j < k → l[j].n ≤ 10) ∧ Hid (Below w.heap.size w wr)) (fun i _ => l.length - (intOf i).toNat)
    case atStart => exact ⟨0, Nat.zero_le _, rfl, fun j h hj => absurd hj (by omega), Below.refl _ _⟩
    case round =>
      obtain ⟨k, hk, rfl, h10, hB⟩ := hrel
      by_cases hlt : k < l.length
      · rcases Hl.out.2 with ⟨b0, off, cap, e, hi⟩ | ⟨rfl, _⟩
        case inr => simp at hlt
        injection e with e1 e2 e3
        subst e1 e3
        clear e2
        have hop := (hi k hlt).below hB.out
        have h10k : (l[k].n : Int) > 10 ∨ l[k].n ≤ 10 := by omega
        obtain ⟨o, ho⟩ : ∃ o, l[k] = o := ⟨_, rfl⟩
        have hstep : l[k].n ≤ 10 → ∀ j (h : j < l.length), j < k + 1 → l[j].n ≤ 10 := fun hn j h hj => by
          rcases Nat.lt_or_ge j k with q | q
          · exact h10.out j h q
          · obtain rfl : j = k := by omega
            exact hn
        rw [ho] at hop h10k hstep
        obtain ⟨c0, c1, c2, c3, _, hn⟩ := hop
        have Hstep := hide hstep
        clear ho hi hstep
        by_cases hs : (o.n : Int) > 10
        · go_wp2_with (go_at_call 16; refine (known5 _).mono ?_; rintro e w' ⟨rfl, hb⟩)
          go_ret
          exact ⟨rfl, (hB.out.alloc hB.out.size _).trans (hb.mono (by have := hB.out.size; simp; omega))⟩
        · go_wp2
          go_roundw
          case rel => exact ⟨k + 1, by omega, by go_num, Hstep.out (by omega), hB.out.alloc hB.out.size _⟩
          case measure => simp [intOf]; omega
      · obtain rfl : k = l.length := by omega
        go_wp2_with fail
        refine (new_any 200 (by omega) (by omega) _).mono ?_
        rintro e w1 ⟨b, mm, rfl, hm, hb, hbb, hmm⟩
        have hbs := hB.out.size
        have Hruns := hide (runs_any b mm _ l w w1 Hl.out (fun i h => h10.out i h h) ⟨200, 0, []⟩ (memOk_new 200 (by omega) (by omega)) hm (hB.out.trans (hb.mono hbs)) ⟨by omega, by omega⟩ (by simp; omega) (by simp; omega))
        clear hm hb
        go_wp2_with fail
        refine Hruns.out.mono ?_
        rintro e w2 ⟨M, rfl, hm2, hok2, hlim, hlast, hlen2, hb2⟩
        have hz2 : w.heap.size ≤ w2.heap.size := hb2.size
        have Hfacts := hide (facts_any b mm M hok2 (by simp at hlast; omega) _ hm2)
        have M2 := hide hm2
        have Ok := hide hok2
        have B2 := hide hb2
        clear hm2 hok2 hb2 hlim hlen2 Hruns
        go_wp2_with fail
        refine Hfacts.out.mono ?_
        rintro e W ⟨fv, out, rfl, hfa, hsay, hbW⟩
        have hzW : w2.heap.size ≤ W.heap.size := hbW.size
        have MW := hide (M2.out.below hbW)
        have BW := hide (B2.out.trans (hbW.mono hz2))
        obtain ⟨hol, hsat⟩ := says_at hsay
        have Hsat := hide hsat
        have Hfa := hide hfa
        have hform : ∃ fa fc, fv = .slice fa out.length fc := by
          rcases hfa.cases with ⟨rfl, rfl⟩ | ⟨g, fc, rfl, _⟩ <;> exact ⟨_, _, rfl⟩
        obtain ⟨fa, fc, rfl⟩ := hform
        have hol2 : (out.length : Int) ≤ 200 := by have := Ok.out.len; have := Ok.out.lim; omega
        clear hfa hbW M2 B2 Hfacts hsay hsat hlt
        go_wp2_with fail
        go_loopw [10, 50] (fun t i wr => ∃ k : Nat, k ≤ out.length ∧ i = .int .i64 k ∧ t = .bool (hasId (M.l.take k) id) ∧ Hid (Below W.heap.size W wr)) (fun _ i _ => out.length - (intOf i).toNat)
        case atStart => exact ⟨0, Nat.zero_le _, rfl, rfl, Below.refl _ _⟩
        case round =>
          obtain ⟨k, hk, rfl, rfl, hBB⟩ := hrel
          by_cases hlt : k < out.length
          · have hlm : k < M.l.length := by omega
            rcases Hfa.out.cases with ⟨_, rfl⟩ | ⟨gk, c', e, hg1, hg2⟩
            · simp at hlt
            injection e with e1 e2 e3
            subst e1 e3
            clear e2
            obtain ⟨f, hf⟩ : ∃ f, M.l[k] = f := ⟨_, rfl⟩
            obtain ⟨q1, q2, q3⟩ := Hsat.out k hlt hlm
            have hfm : f ∈ M.l := hf ▸ List.getElem_mem hlm
            have hfw := Hfa.out.only (Only.of_below (hBB.out.mono (Nat.le_refl _)) []) (by simp)
            obtain ⟨r0, r1, r2⟩ := hfw.at k hlt
            have hxs := (hfw.vals _ (List.getElem_mem hlt)).1
            obtain ⟨xa, xn, xc, hx⟩ := hxs.form
            rw [q1, hf] at r0
            rw [q2, hf] at r1
            rw [hx] at r2 hxs
            rw [q3, hf] at hxs
            obtain ⟨F, hF⟩ : ∃ F, Obj.cells #[.int .i64 f.id, .int .i64 f.t, .slice xa xn xc] 34 (0, 0) = F := ⟨_, rfl⟩
            have o1 : Only [] wr (wr.alloc (Obj.cells #[.int .i64 f.id, .int .i64 f.t, .slice xa xn xc] 34)) := (Only.refl [] _).alloc _
            have hzr := hBB.out.size
            have m0 := MW.out.below hBB.out
            have m1 := m0.only o1 (by simp) (by simp) (by simp)
            have s1 := hxs.only o1 (by simp)
            have x1 := (MapKept.heap_alloc wr (Obj.cells #[.int .i64 f.id, .int .i64 f.t, .slice xa xn xc] 34)).1
            have b1 := hBB.out.alloc hzr (Obj.cells #[.int .i64 f.id, .int .i64 f.t, .slice xa xn xc] 34)
            have M1 := hide m1
            have S1 := hide s1
            have X1 := hide x1
            have B1 := hide b1
            have Hf := hide hf
            have Hfm := hide hfm
            have hid1 := Ok.out.le f hfm
            have Hx := hide hxs
            clear hf hfm hxs hx q1 q2 q3 hfw m0 m1 s1 x1 b1 o1 hF F
            go_wp2_with fail
            refine (get_yes b mm M Ok.out _ M1.out f Hfm.out).mono ?_
            rintro e w4 ⟨u, rfl, hsu, _, hb4⟩
            obtain ⟨ua, un, uc, rfl⟩ := hsu.form
            have hz4 : W.heap.size ≤ w4.heap.size := by have := hb4.size; simp at this; omega
            have hr4 : wr.heap.size < w4.heap.size := by have := hb4.size; simp at this; omega
            have o5 : Only [] w4 (w4.alloc (Obj.cells #[.int .i64 f.id, .int .i64 f.t, .slice ua un uc] 34)) := (Only.refl [] _).alloc _
            have o4 := (Only.of_below hb4 []).trans o5
            have M5 := hide (M1.out.only o4 (by simp) (by simp) (by simp))
            have S5 := hide (S1.out.only o4 (by simp))
            have U5 := hide (hsu.only o5 (by simp))
            have X5 := hide ((o4.block wr.heap.size (lt_of_heap X1.out) (by simp)).trans X1.out)
            have Y5 := hide (MapKept.heap_alloc w4 (Obj.cells #[.int .i64 f.id, .int .i64 f.t, .slice ua un uc] 34)).1
            have B5 := hide ((B1.out.trans (hb4.mono (by simp; omega))).alloc hz4 (Obj.cells #[.int .i64 f.id, .int .i64 f.t, .slice ua un uc] 34))
            obtain ⟨x0, x1, x2, x3, _⟩ := cells3 X5.out
            obtain ⟨y0, y1, y2, y3, _⟩ := cells3 Y5.out
            have hf5 := Hfa.out.only (Only.of_below B5.out []) (by simp)
            have O5 := hide o5
            clear hsu hb4 o5 o4 M1 S1 X1 B1 r0 r1 r2
            have hp5 : k ≠ 0 → ∃ (k' : Nat) (p : Fc), k = k' + 1 ∧ (w4.alloc (Obj.cells #[.int .i64 f.id, .int .i64 f.t, .slice ua un uc] 34)).cell? ⟨gk, k' * 3, none⟩ = some (.int .i64 p.id) ∧ p.id < f.id ∧ gk < w4.heap.size := by
              intro h0
              obtain ⟨k', rfl⟩ : ∃ k', k = k' + 1 := ⟨k - 1, by omega⟩
              refine ⟨k', M.l[k'], rfl, ?_, ?_, by omega⟩
              · have := (hf5.at k' (by omega)).1
                rwa [(Hsat.out k' (by omega) (by omega)).1] at this
              · rw [← Hf.out]
                exact List.pairwise_iff_getElem.1 Ok.out.ids k' (k' + 1) (by omega) hlm (by omega)
            have Hp5 := hide hp5
            have hs5 : (w4.alloc (Obj.cells #[.int .i64 f.id, .int .i64 f.t, .slice ua un uc] 34)).heap.size = w4.heap.size + 1 := by simp
            clear hf5 hp5
            go_upto_region 19 with fail
            obtain ⟨w5, hw5⟩ : ∃ x, w4.alloc (Obj.cells #[.int .i64 f.id, .int .i64 f.t, .slice ua un uc] 34) = x := ⟨_, rfl⟩
            rw [hw5] at M5 S5 U5 X5 Y5 B5 x0 x1 x2 x3 y0 y1 y2 y3 O5 Hp5 hs5 ⊢
            have Hw5 := hide hw5
            clear hw5
            have hFind : ∀ w, Only [] w5 w → Calls Try.prog 15 #[.pointer (some ⟨b, 0, none⟩), .int .i64 f.t, .slice xa xn xc] w fun e w' => e = .returned (.int .i64 f.id) ∧ Below w5.heap.size w5 w' ∧ w.heap.size ≤ w'.heap.size := by
              intro w' o6
              have := find_any b mm M Ok.out f.t (.slice xa xn xc) f.s _ (M5.out.only o6 (by simp) (by simp) (by simp)) (S5.out.only o6 (by simp))
              rw [show M.find f.t f.s = f.id from by unfold Mm.find; rw [Mm.find_mem Ok.out Hfm.out]] at this
              exact this.mono fun e w'' ⟨h1, h2⟩ => ⟨h1, (o6.trans (Only.of_below h2 [])).below, h2.size⟩
            have Hfind := hide hFind
            have M6 := hide (M5.out.only (Only.drew (Only.refl [] _)) (by simp) (by simp) (by simp))
            have S6 := hide (S5.out.only (Only.drew (Only.refl [] _)) (by simp))
            have U6 := hide (U5.out.only (Only.drew (Only.refl [] _)) (by simp))
            clear hFind
            have n1 : decide (f.id < 1) = false := decide_eq_false (by omega)
            have n2 : decide (M.last < f.id) = false := decide_eq_false (by omega)
            by_cases hk0 : k = 0
            · subst hk0
              clear Hp5
              refine wp_region_noPanic ?_
              refine wp_region_held_drew (S := fun W => W.cell? ⟨wr.heap.size, 0, none⟩ = some (.int .i64 f.id) ∧ W.cell? ⟨wr.heap.size, 1, none⟩ = some (.int .i64 f.t) ∧ W.cell? ⟨wr.heap.size, 2, none⟩ = some (.slice xa xn xc) ∧ W.cell? ⟨w4.heap.size, 1, none⟩ = some (.int .i64 f.t) ∧ W.cell? ⟨w4.heap.size, 2, none⟩ = some (.slice ua un uc)) (by kernel_rfl) ?_ (fun hHeld => ?_)
              · (try dsimp only); go_keep
              refine wpAnyH_take (i := 0) (oi := ⟨some 62, _, _, _, _, _⟩) (v := ?v0) rfl (by kernel_rfl) (by kernel_rfl) (by kernel_rfl) (fun _ _ _ h => h) (Or.inl ⟨by rfl, ?h0⟩) (by assumption) ?r0
              case h0 => (intro w hSw; (try dsimp only at hSw); (first | (go_simp; done) | (go_simp; with_reducible rfl)))
              try simp only [Act.put, List.setIfInBounds_toArray, List.set_cons_zero, List.set_cons_succ]
              refine wpAnyH_take (i := 1) (oi := ⟨some 63, _, _, _, _, _⟩) (v := ?v1) rfl (by kernel_rfl) (by kernel_rfl) (by kernel_rfl) (fun _ _ _ h => h) (Or.inl ⟨by rfl, ?h1⟩) (by assumption) ?r1
              case h1 => (intro w hSw; (try dsimp only at hSw); (first | (go_simp; done) | (go_simp; with_reducible rfl)))
              try simp only [Act.put, List.setIfInBounds_toArray, List.set_cons_zero, List.set_cons_succ]
              refine wpAnyH_take (i := 2) (oi := ⟨some 64, _, _, _, _, _⟩) (v := ?v2) rfl (by kernel_rfl) (by kernel_rfl) (by kernel_rfl) (fun _ _ _ h => h) (Or.inl ⟨by rfl, ?h2⟩) (by assumption) ?r2
              case h2 => (intro w hSw; (try dsimp only at hSw); (first | (go_simp; done) | (go_simp; with_reducible rfl)))
              try simp only [Act.put, List.setIfInBounds_toArray, List.set_cons_zero, List.set_cons_succ]
              refine wpAnyH_take (i := 3) (oi := ⟨some 65, _, _, _, _, _⟩) (v := ?v3) rfl (by kernel_rfl) (by kernel_rfl) (by kernel_rfl) (fun _ _ _ h => h) (Or.inl ⟨by rfl, ?h3⟩) (by assumption) ?r3
              case h3 => (intro w hSw; (try dsimp only at hSw); (first | (go_simp; done) | (go_simp; with_reducible rfl)))
              try simp only [Act.put, List.setIfInBounds_toArray, List.set_cons_zero, List.set_cons_succ]
              refine wpAnyH_take (i := 4) (oi := ⟨some 66, _, _, _, _, _⟩) (v := ?v4) rfl (by kernel_rfl) (by kernel_rfl) (by kernel_rfl) (fun _ _ _ h => h) (Or.inl ⟨by rfl, ?h4⟩) (by assumption) ?r4
              case h4 => (intro w hSw; (try dsimp only at hSw); (first | (go_simp; done) | (go_simp; with_reducible rfl)))
              try simp only [Act.put, List.setIfInBounds_toArray, List.set_cons_zero, List.set_cons_succ]
              refine wpAnyH_take (i := 5) (oi := ⟨some 67, _, _, _, _, _⟩) (v := ?v5) rfl (by kernel_rfl) (by kernel_rfl) (by kernel_rfl) (fun _ _ _ h => h) (Or.inl ⟨by rfl, ?h5⟩) (by assumption) ?r5
              case h5 => (intro w hSw; (try dsimp only at hSw); (first | (go_simp; done) | (go_simp; with_reducible rfl)))
              try simp only [Act.put, List.setIfInBounds_toArray, List.set_cons_zero, List.set_cons_succ]
              refine wpAnyH_take (i := 6) (oi := ⟨some 68, _, _, _, _, _⟩) (v := ?v6) rfl (by kernel_rfl) (by kernel_rfl) (by kernel_rfl) (fun _ _ _ h => h) (Or.inl ⟨by rfl, ?h6⟩) (by assumption) ?r6
              case h6 => (intro w hSw; (try dsimp only at hSw); (first | (go_simp; done) | (go_simp; with_reducible rfl)))
              try simp only [Act.put, List.setIfInBounds_toArray, List.set_cons_zero, List.set_cons_succ]
              refine wpAnyH_ready (rs := [7]) (by kernel_rfl) (by simp) ?_
              refine AllReadyH.cons (o := ⟨some 69, _, _, _, _, _⟩) (rs := []) rfl (fun K hK => ?_) AllReadyH.nil
              go_simp
              go_at_call 13
              refine (last_any b mm M _ M6.out).mono ?_
              rintro e w' ⟨rfl, rfl⟩
              try go_wp2_with fail
              clear hHeld
              refine hK.out _ _ ?_ (fun hHeld => ?_)
              · (try dsimp only); go_keep
              clear hK K
              try simp only [Act.put, List.setIfInBounds_toArray, List.set_cons_zero, List.set_cons_succ]
              refine wpAnyH_take (i := 8) (oi := ⟨some 70, _, _, _, _, _⟩) (v := ?v8) rfl (by kernel_rfl) (by kernel_rfl) (by kernel_rfl) (fun _ _ _ h => h) (Or.inl ⟨by rfl, ?h8⟩) (by assumption) ?r8
              case h8 => (intro w hSw; (try dsimp only at hSw); (first | (go_simp; done) | (go_simp; with_reducible rfl)))
              try simp only [Act.put, List.setIfInBounds_toArray, List.set_cons_zero, List.set_cons_succ]
              refine wpAnyH_take (i := 9) (oi := ⟨some 71, _, _, _, _, _⟩) (v := ?v9) rfl (by kernel_rfl) (by kernel_rfl) (by kernel_rfl) (fun _ _ _ h => h) (Or.inl ⟨by rfl, ?h9⟩) (by assumption) ?r9
              case h9 => (intro w hSw; (try dsimp only at hSw); (first | (go_simp; done) | (go_simp; with_reducible rfl)))
              try simp only [Act.put, List.setIfInBounds_toArray, List.set_cons_zero, List.set_cons_succ]
              refine wpAnyH_take (i := 10) (oi := ⟨some 72, _, _, _, _, _⟩) (v := ?v10) rfl (by kernel_rfl) (by kernel_rfl) (by kernel_rfl) (fun _ _ _ h => h) (Or.inl ⟨by rfl, ?h10⟩) (by assumption) ?r10
              case h10 => (intro w hSw; (try dsimp only at hSw); (first | (go_simp; done) | (go_simp; with_reducible rfl)))
              try simp only [Act.put, List.setIfInBounds_toArray, List.set_cons_zero, List.set_cons_succ]
              refine wpAnyH_take (i := 11) (oi := ⟨some 73, _, _, _, _, _⟩) (v := ?v11) rfl (by kernel_rfl) (by kernel_rfl) (by kernel_rfl) (fun _ _ _ h => h) (Or.inl ⟨by rfl, ?h11⟩) (by assumption) ?r11
              case h11 => (intro w hSw; (try dsimp only at hSw); (first | (go_simp; done) | (go_simp; with_reducible rfl)))
              try simp only [Act.put, List.setIfInBounds_toArray, List.set_cons_zero, List.set_cons_succ]
              refine wpAnyH_take (i := 12) (oi := ⟨some 74, _, _, _, _, _⟩) (v := ?v12) rfl (by kernel_rfl) (by kernel_rfl) (by kernel_rfl) (fun _ _ _ h => h) (Or.inl ⟨by rfl, ?h12⟩) (by assumption) ?r12
              case h12 => (intro w hSw; (try dsimp only at hSw); (first | (go_simp; done) | (go_simp; with_reducible rfl)))
              try simp only [Act.put, List.setIfInBounds_toArray, List.set_cons_zero, List.set_cons_succ]
              refine wpAnyH_take (i := 13) (oi := ⟨some 75, _, _, _, _, _⟩) (v := ?v13) rfl (by kernel_rfl) (by kernel_rfl) (by kernel_rfl) (fun _ _ _ h => h) (Or.inl ⟨by rfl, ?h13⟩) (by assumption) ?r13
              case h13 => (intro w hSw; (try dsimp only at hSw); (first | (go_simp; done) | (go_simp; with_reducible rfl)))
              try simp only [Act.put, List.setIfInBounds_toArray, List.set_cons_zero, List.set_cons_succ]
              refine wpAnyH_take (i := 14) (oi := ⟨some 76, _, _, _, _, _⟩) rfl (by kernel_rfl) (by kernel_rfl) (by kernel_rfl) (fun _ _ _ h => h) (Or.inr ⟨by rfl, rfl⟩) (by assumption) ?_
              try simp only [Act.put, List.setIfInBounds_toArray, List.set_cons_zero, List.set_cons_succ]
              refine wpAnyH_take (i := 15) (oi := ⟨some 77, _, _, _, _, _⟩) rfl (by kernel_rfl) (by kernel_rfl) (by kernel_rfl) (fun _ _ _ h => h) (Or.inr ⟨by rfl, rfl⟩) (by assumption) ?_
              try simp only [Act.put, List.setIfInBounds_toArray, List.set_cons_zero, List.set_cons_succ]
              refine wpAnyH_take (i := 16) (oi := ⟨some 78, _, _, _, _, _⟩) rfl (by kernel_rfl) (by kernel_rfl) (by kernel_rfl) (fun _ _ _ h => h) (Or.inr ⟨by rfl, rfl⟩) (by assumption) ?_
              try simp only [Act.put, List.setIfInBounds_toArray, List.set_cons_zero, List.set_cons_succ]
              refine wpAnyH_take (i := 17) (oi := ⟨some 79, _, _, _, _, _⟩) rfl (by kernel_rfl) (by kernel_rfl) (by kernel_rfl) (fun _ _ _ h => h) (Or.inr ⟨by rfl, rfl⟩) (by assumption) ?_
              try simp only [Act.put, List.setIfInBounds_toArray, List.set_cons_zero, List.set_cons_succ]
              refine wpAnyH_take (i := 18) (oi := ⟨some 80, _, _, _, _, _⟩) rfl (by kernel_rfl) (by kernel_rfl) (by kernel_rfl) (fun _ _ _ h => h) (Or.inr ⟨by rfl, rfl⟩) (by assumption) ?_
              try simp only [Act.put, List.setIfInBounds_toArray, List.set_cons_zero, List.set_cons_succ]
              refine wpAnyH_take (i := 19) (oi := ⟨some 81, _, _, _, _, _⟩) rfl (by kernel_rfl) (by kernel_rfl) (by kernel_rfl) (fun _ _ _ h => h) (Or.inr ⟨by rfl, rfl⟩) (by assumption) ?_
              try simp only [Act.put, List.setIfInBounds_toArray, List.set_cons_zero, List.set_cons_succ]
              refine wpAnyH_take (i := 20) (oi := ⟨some 82, _, _, _, _, _⟩) rfl (by kernel_rfl) (by kernel_rfl) (by kernel_rfl) (fun _ _ _ h => h) (Or.inr ⟨by rfl, rfl⟩) (by assumption) ?_
              try simp only [Act.put, List.setIfInBounds_toArray, List.set_cons_zero, List.set_cons_succ]
              refine wpAnyH_take (i := 21) (oi := ⟨some 83, _, _, _, _, _⟩) rfl (by kernel_rfl) (by kernel_rfl) (by kernel_rfl) (fun _ _ _ h => h) (Or.inr ⟨by rfl, rfl⟩) (by assumption) ?_
              try simp only [Act.put, List.setIfInBounds_toArray, List.set_cons_zero, List.set_cons_succ]
              refine wpAnyH_take (i := 22) (oi := ⟨some 84, _, _, _, _, _⟩) rfl (by kernel_rfl) (by kernel_rfl) (by kernel_rfl) (fun _ _ _ h => h) (Or.inr ⟨by rfl, rfl⟩) (by assumption) ?_
              try simp only [Act.put, List.setIfInBounds_toArray, List.set_cons_zero, List.set_cons_succ]
              refine wpAnyH_take (i := 23) (oi := ⟨some 85, _, _, _, _, _⟩) (v := ?v23) rfl (by kernel_rfl) (by kernel_rfl) (by kernel_rfl) (fun _ _ _ h => h) (Or.inl ⟨by rfl, ?h23⟩) (by assumption) ?r23
              case h23 => (intro w hSw; (try dsimp only at hSw); (first | (go_simp; done) | (go_simp; with_reducible rfl)))
              try simp only [Act.put, List.setIfInBounds_toArray, List.set_cons_zero, List.set_cons_succ]
              refine wpAnyH_take (i := 24) (oi := ⟨some 86, _, _, _, _, _⟩) (v := ?v24) rfl (by kernel_rfl) (by kernel_rfl) (by kernel_rfl) (fun _ _ _ h => h) (Or.inl ⟨by rfl, ?h24⟩) (by assumption) ?r24
              case h24 => (intro w hSw; (try dsimp only at hSw); (first | (go_simp; done) | (go_simp; with_reducible rfl)))
              try simp only [Act.put, List.setIfInBounds_toArray, List.set_cons_zero, List.set_cons_succ]
              refine wpAnyH_take (i := 25) (oi := ⟨some 87, _, _, _, _, _⟩) (v := ?v25) rfl (by kernel_rfl) (by kernel_rfl) (by kernel_rfl) (fun _ _ _ h => h) (Or.inl ⟨by rfl, ?h25⟩) (by assumption) ?r25
              case h25 => (intro w hSw; (try dsimp only at hSw); (first | (go_simp; done) | (go_simp; with_reducible rfl)))
              try simp only [Act.put, List.setIfInBounds_toArray, List.set_cons_zero, List.set_cons_succ]
              refine wpAnyH_take (i := 26) (oi := ⟨some 88, _, _, _, _, _⟩) (v := ?v26) rfl (by kernel_rfl) (by kernel_rfl) (by kernel_rfl) (fun _ _ _ h => h) (Or.inl ⟨by rfl, ?h26⟩) (by assumption) ?r26
              case h26 => (intro w hSw; (try dsimp only at hSw); (first | (go_simp; done) | (go_simp; with_reducible rfl)))
              try simp only [Act.put, List.setIfInBounds_toArray, List.set_cons_zero, List.set_cons_succ]
              refine wpAnyH_take (i := 27) (oi := ⟨some 89, _, _, _, _, _⟩) (v := ?v27) rfl (by kernel_rfl) (by kernel_rfl) (by kernel_rfl) (fun _ _ _ h => h) (Or.inl ⟨by rfl, ?h27⟩) (by assumption) ?r27
              case h27 => (intro w hSw; (try dsimp only at hSw); (first | (go_simp; done) | (go_simp; with_reducible rfl)))
              try simp only [Act.put, List.setIfInBounds_toArray, List.set_cons_zero, List.set_cons_succ]
              refine wpAnyH_take (i := 28) (oi := ⟨some 90, _, _, _, _, _⟩) (v := ?v28) rfl (by kernel_rfl) (by kernel_rfl) (by kernel_rfl) (fun _ _ _ h => h) (Or.inl ⟨by rfl, ?h28⟩) (by assumption) ?r28
              case h28 => (intro w hSw; (try dsimp only at hSw); (first | (go_simp; done) | (go_simp; with_reducible rfl)))
              try simp only [Act.put, List.setIfInBounds_toArray, List.set_cons_zero, List.set_cons_succ]
              refine wpAnyH_take (i := 29) (oi := ⟨some 91, _, _, _, _, _⟩) (v := ?v29) rfl (by kernel_rfl) (by kernel_rfl) (by kernel_rfl) (fun _ _ _ h => h) (Or.inl ⟨by rfl, ?h29⟩) (by assumption) ?r29
              case h29 => (intro w hSw; (try dsimp only at hSw); (first | (go_simp; done) | (go_simp; with_reducible rfl)))
              try simp only [Act.put, List.setIfInBounds_toArray, List.set_cons_zero, List.set_cons_succ]
              refine wpAnyH_take (i := 30) (oi := ⟨some 92, _, _, _, _, _⟩) (v := ?v30) rfl (by kernel_rfl) (by kernel_rfl) (by kernel_rfl) (fun _ _ _ h => h) (Or.inl ⟨by rfl, ?h30⟩) (by assumption) ?r30
              case h30 => (intro w hSw; (try dsimp only at hSw); (first | (go_simp; done) | (go_simp; with_reducible rfl)))
              try simp only [Act.put, List.setIfInBounds_toArray, List.set_cons_zero, List.set_cons_succ]
              refine wpAnyH_take (i := 31) (oi := ⟨some 93, _, _, _, _, _⟩) (v := ?v31) rfl (by kernel_rfl) (by kernel_rfl) (by kernel_rfl) (fun _ _ _ h => h) (Or.inl ⟨by rfl, ?h31⟩) (by assumption) ?r31
              case h31 => (intro w hSw; (try dsimp only at hSw); (first | (go_simp; done) | (go_simp; with_reducible rfl)))
              try simp only [Act.put, List.setIfInBounds_toArray, List.set_cons_zero, List.set_cons_succ]
              refine wpAnyH_take (i := 32) (oi := ⟨some 94, _, _, _, _, _⟩) (v := ?v32) rfl (by kernel_rfl) (by kernel_rfl) (by kernel_rfl) (fun _ _ _ h => h) (Or.inl ⟨by rfl, ?h32⟩) (by assumption) ?r32
              case h32 => (intro w hSw; (try dsimp only at hSw); (first | (go_simp; done) | (go_simp; with_reducible rfl)))
              try simp only [Act.put, List.setIfInBounds_toArray, List.set_cons_zero, List.set_cons_succ]
              refine wpAnyH_take (i := 33) (oi := ⟨some 95, _, _, _, _, _⟩) (v := ?v33) rfl (by kernel_rfl) (by kernel_rfl) (by kernel_rfl) (fun _ _ _ h => h) (Or.inl ⟨by rfl, ?h33⟩) (by assumption) ?r33
              case h33 => (intro w hSw; (try dsimp only at hSw); (first | (go_simp; done) | (go_simp; with_reducible rfl)))
              try simp only [Act.put, List.setIfInBounds_toArray, List.set_cons_zero, List.set_cons_succ]
              refine wpAnyH_take (i := 34) (oi := ⟨some 96, _, _, _, _, _⟩) (v := ?v34) rfl (by kernel_rfl) (by kernel_rfl) (by kernel_rfl) (fun _ _ _ h => h) (Or.inl ⟨by rfl, ?h34⟩) (by assumption) ?r34
              case h34 => (intro w hSw; (try dsimp only at hSw); (first | (go_simp; done) | (go_simp; with_reducible rfl)))
              try simp only [Act.put, List.setIfInBounds_toArray, List.set_cons_zero, List.set_cons_succ]
              refine wpAnyH_take (i := 35) (oi := ⟨some 97, _, _, _, _, _⟩) (v := ?v35) rfl (by kernel_rfl) (by kernel_rfl) (by kernel_rfl) (fun _ _ _ h => h) (Or.inl ⟨by rfl, ?h35⟩) (by assumption) ?r35
              case h35 => (intro w hSw; (try dsimp only at hSw); (first | (go_simp; done) | (go_simp; with_reducible rfl)))
              try simp only [Act.put, List.setIfInBounds_toArray, List.set_cons_zero, List.set_cons_succ]
              refine wpAnyH_take (i := 36) (oi := ⟨some 98, _, _, _, _, _⟩) (v := ?v36) rfl (by kernel_rfl) (by kernel_rfl) (by kernel_rfl) (fun _ _ _ h => h) (Or.inl ⟨by rfl, ?h36⟩) (by assumption) ?r36
              case h36 => (intro w hSw; (try dsimp only at hSw); (first | (go_simp; done) | (go_simp; with_reducible rfl)))
              try simp only [Act.put, List.setIfInBounds_toArray, List.set_cons_zero, List.set_cons_succ]
              refine wpAnyH_take (i := 37) (oi := ⟨some 99, _, _, _, _, _⟩) (v := ?v37) rfl (by kernel_rfl) (by kernel_rfl) (by kernel_rfl) (fun _ _ _ h => h) (Or.inl ⟨by rfl, ?h37⟩) (by assumption) ?r37
              case h37 => (intro w hSw; (try dsimp only at hSw); (first | (go_simp; done) | (go_simp; with_reducible rfl)))
              try simp only [Act.put, List.setIfInBounds_toArray, List.set_cons_zero, List.set_cons_succ]
              refine wpAnyH_take (i := 38) (oi := ⟨some 100, _, _, _, _, _⟩) (v := ?v38) rfl (by kernel_rfl) (by kernel_rfl) (by kernel_rfl) (fun _ _ _ h => h) (Or.inl ⟨by rfl, ?h38⟩) (by assumption) ?r38
              case h38 => (intro w hSw; (try dsimp only at hSw); (first | (go_simp; done) | (go_simp; with_reducible rfl)))
              try simp only [Act.put, List.setIfInBounds_toArray, List.set_cons_zero, List.set_cons_succ]
              refine wpAnyH_take (i := 39) (oi := ⟨some 101, _, _, _, _, _⟩) (v := ?v39) rfl (by kernel_rfl) (by kernel_rfl) (by kernel_rfl) (fun _ _ _ h => h) (Or.inl ⟨by rfl, ?h39⟩) (by assumption) ?r39
              case h39 => (intro w hSw; (try dsimp only at hSw); (first | (go_simp; done) | (go_simp; with_reducible rfl)))
              try simp only [Act.put, List.setIfInBounds_toArray, List.set_cons_zero, List.set_cons_succ]
              refine wpAnyH_take (i := 40) (oi := ⟨some 102, _, _, _, _, _⟩) (v := ?v40) rfl (by kernel_rfl) (by kernel_rfl) (by kernel_rfl) (fun _ _ _ h => h) (Or.inl ⟨by rfl, ?h40⟩) (by assumption) ?r40
              case h40 => (intro w hSw; (try dsimp only at hSw); (first | (go_simp; done) | (go_simp; with_reducible rfl)))
              try simp only [Act.put, List.setIfInBounds_toArray, List.set_cons_zero, List.set_cons_succ]
              refine wpAnyH_ready (rs := [41]) (by kernel_rfl) (by simp) ?_
              refine AllReadyH.cons (o := ⟨some 103, _, _, _, _, _⟩) (rs := []) rfl (fun K hK => ?_) AllReadyH.nil
              go_simp
              go_at_call 23
              refine (same_any _ _ f.s f.s _ U6.out S6.out).mono ?_
              rintro e w6 ⟨rfl, nq, rfl⟩
              rw [show decide (f.s = f.s) = true from by simp]
              try go_wp2_with fail
              clear hHeld
              refine hK.out _ _ ?_ (fun hHeld => ?_)
              · (try dsimp only); go_keep
              clear hK K
              try simp only [Act.put, List.setIfInBounds_toArray, List.set_cons_zero, List.set_cons_succ]
              refine wpAnyH_take (i := 42) (oi := ⟨some 104, _, _, _, _, _⟩) (v := ?v42) rfl (by kernel_rfl) (by kernel_rfl) (by kernel_rfl) (fun _ _ _ h => h) (Or.inl ⟨by rfl, ?h42⟩) (by assumption) ?r42
              case h42 => (intro w hSw; (try dsimp only at hSw); (first | (go_simp; done) | (go_simp; with_reducible rfl)))
              try simp only [Act.put, List.setIfInBounds_toArray, List.set_cons_zero, List.set_cons_succ]
              refine wpAnyH_take (i := 43) (oi := ⟨some 105, _, _, _, _, _⟩) (v := ?v43) rfl (by kernel_rfl) (by kernel_rfl) (by kernel_rfl) (fun _ _ _ h => h) (Or.inl ⟨by rfl, ?h43⟩) (by assumption) ?r43
              case h43 => (intro w hSw; (try dsimp only at hSw); (first | (go_simp; done) | (go_simp; with_reducible rfl)))
              try simp only [Act.put, List.setIfInBounds_toArray, List.set_cons_zero, List.set_cons_succ]
              refine wpAnyH_take (i := 44) (oi := ⟨some 106, _, _, _, _, _⟩) (v := ?v44) rfl (by kernel_rfl) (by kernel_rfl) (by kernel_rfl) (fun _ _ _ h => h) (Or.inl ⟨by rfl, ?h44⟩) (by assumption) ?r44
              case h44 => (intro w hSw; (try dsimp only at hSw); (first | (go_simp; done) | (go_simp; with_reducible rfl)))
              try simp only [Act.put, List.setIfInBounds_toArray, List.set_cons_zero, List.set_cons_succ]
              refine wpAnyH_take (i := 45) (oi := ⟨some 107, _, _, _, _, _⟩) (v := ?v45) rfl (by kernel_rfl) (by kernel_rfl) (by kernel_rfl) (fun _ _ _ h => h) (Or.inl ⟨by rfl, ?h45⟩) (by assumption) ?r45
              case h45 => (intro w hSw; (try dsimp only at hSw); (first | (go_simp; done) | (go_simp; with_reducible rfl)))
              try simp only [Act.put, List.setIfInBounds_toArray, List.set_cons_zero, List.set_cons_succ]
              refine wpAnyH_take (i := 46) (oi := ⟨some 108, _, _, _, _, _⟩) (v := ?v46) rfl (by kernel_rfl) (by kernel_rfl) (by kernel_rfl) (fun _ _ _ h => h) (Or.inl ⟨by rfl, ?h46⟩) (by assumption) ?r46
              case h46 => (intro w hSw; (try dsimp only at hSw); (first | (go_simp; done) | (go_simp; with_reducible rfl)))
              try simp only [Act.put, List.setIfInBounds_toArray, List.set_cons_zero, List.set_cons_succ]
              refine wpAnyH_take (i := 47) (oi := ⟨some 109, _, _, _, _, _⟩) (v := ?v47) rfl (by kernel_rfl) (by kernel_rfl) (by kernel_rfl) (fun _ _ _ h => h) (Or.inl ⟨by rfl, ?h47⟩) (by assumption) ?r47
              case h47 => (intro w hSw; (try dsimp only at hSw); (first | (go_simp; done) | (go_simp; with_reducible rfl)))
              try simp only [Act.put, List.setIfInBounds_toArray, List.set_cons_zero, List.set_cons_succ]
              refine wpAnyH_take (i := 48) (oi := ⟨some 110, _, _, _, _, _⟩) (v := ?v48) rfl (by kernel_rfl) (by kernel_rfl) (by kernel_rfl) (fun _ _ _ h => h) (Or.inl ⟨by rfl, ?h48⟩) (by assumption) ?r48
              case h48 => (intro w hSw; (try dsimp only at hSw); (first | (go_simp; done) | (go_simp; with_reducible rfl)))
              try simp only [Act.put, List.setIfInBounds_toArray, List.set_cons_zero, List.set_cons_succ]
              refine wpAnyH_take (i := 49) (oi := ⟨some 111, _, _, _, _, _⟩) (v := ?v49) rfl (by kernel_rfl) (by kernel_rfl) (by kernel_rfl) (fun _ _ _ h => h) (Or.inl ⟨by rfl, ?h49⟩) (by assumption) ?r49
              case h49 => (intro w hSw; (try dsimp only at hSw); (first | (go_simp; done) | (go_simp; with_reducible rfl)))
              try simp only [Act.put, List.setIfInBounds_toArray, List.set_cons_zero, List.set_cons_succ]
              refine wpAnyH_take (i := 51) (oi := ⟨some 113, _, _, _, _, _⟩) (v := ?v51) rfl (by kernel_rfl) (by kernel_rfl) (by kernel_rfl) (fun _ _ _ h => h) (Or.inl ⟨by rfl, ?h51⟩) (by assumption) ?r51
              case h51 => (intro w hSw; (try dsimp only at hSw); (first | (go_simp; done) | (go_simp; with_reducible rfl)))
              try simp only [Act.put, List.setIfInBounds_toArray, List.set_cons_zero, List.set_cons_succ]
              refine wpAnyH_take (i := 52) (oi := ⟨some 114, _, _, _, _, _⟩) (v := ?v52) rfl (by kernel_rfl) (by kernel_rfl) (by kernel_rfl) (fun _ _ _ h => h) (Or.inl ⟨by rfl, ?h52⟩) (by assumption) ?r52
              case h52 => (intro w hSw; (try dsimp only at hSw); (first | (go_simp; done) | (go_simp; with_reducible rfl)))
              try simp only [Act.put, List.setIfInBounds_toArray, List.set_cons_zero, List.set_cons_succ]
              refine wpAnyH_ready (rs := [50]) (by kernel_rfl) (by simp) ?_
              refine AllReadyH.cons (o := ⟨some 112, _, _, _, _, _⟩) (rs := []) rfl (fun K hK => ?_) AllReadyH.nil
              go_simp
              go_at_call 15
              refine (Hfind.out _ ((Only.refl [] _).drewN _)).mono ?_
              rintro e w7 ⟨rfl, hb7, hz7⟩
              have z0 := (hb7.cell (p := ⟨wr.heap.size, 0, none⟩) (by simp only; omega)).trans x0
              have z1 := (hb7.cell (p := ⟨wr.heap.size, 1, none⟩) (by simp only; omega)).trans x1
              have z2 := (hb7.cell (p := ⟨wr.heap.size, 2, none⟩) (by simp only; omega)).trans x2
              have z3 := (hb7.cell (p := ⟨w4.heap.size, 1, none⟩) (by simp only; omega)).trans y1
              have z4 := (hb7.cell (p := ⟨w4.heap.size, 2, none⟩) (by simp only; omega)).trans y2
              have Hb7 := hide hb7
              clear hb7
              try go_wp2_with fail
              clear hHeld
              refine hK.out _ _ ?_ (fun hHeld => ?_)
              · (try dsimp only); go_keep
              clear hK K
              try simp only [Act.put, List.setIfInBounds_toArray, List.set_cons_zero, List.set_cons_succ]
              refine wpAnyH_take (i := 53) (oi := ⟨some 115, _, _, _, _, _⟩) (v := ?v53) rfl (by kernel_rfl) (by kernel_rfl) (by kernel_rfl) (fun _ _ _ h => h) (Or.inl ⟨by rfl, ?h53⟩) (by assumption) ?r53
              case h53 => (intro w hSw; (try dsimp only at hSw); (first | (go_simp; done) | (go_simp; with_reducible rfl)))
              try simp only [Act.put, List.setIfInBounds_toArray, List.set_cons_zero, List.set_cons_succ]
              refine wpAnyH_take (i := 54) (oi := ⟨some 116, _, _, _, _, _⟩) (v := ?v54) rfl (by kernel_rfl) (by kernel_rfl) (by kernel_rfl) (fun _ _ _ h => h) (Or.inl ⟨by rfl, ?h54⟩) (by assumption) ?r54
              case h54 => (intro w hSw; (try dsimp only at hSw); (first | (go_simp; done) | (go_simp; with_reducible rfl)))
              try simp only [Act.put, List.setIfInBounds_toArray, List.set_cons_zero, List.set_cons_succ]
              refine wpAnyH_done (by kernel_rfl) ?_ _
              refine NoPanic.normal ?_
              have hkey : hasId (M.l.take (0 + 1)) id = (hasId (M.l.take 0) id || f.id == id) := by rw [List.take_succ_eq_append_getElem hlm, Hf.out, hasId_snoc]
              have Key := hide hkey
              have B7 := hide (B5.out.trans (Hb7.out.mono (by omega)))
              clear hkey x0 x1 x2 x3 y0 y1 y2 y3 z1 z2 z3 z4 hHeld
              cases hth : hasId (M.l.take 0) id with
              | true => exact absurd hth (by simp [hasId])
              | false =>
                have Hth := hide hth
                cases hfi : (f.id == id) with
                | true =>
                  have Hfi := hide hfi
                  go_wp2
                  go_roundw
                  case rel => exact ⟨0 + 1, by omega, by go_num, congrArg Value.bool (by rw [Key.out, Hth.out, Hfi.out]; rfl), B7.out⟩
                  case measure => simp [intOf]; omega
                | false =>
                  have Hfi := hide hfi
                  go_wp2
                  go_roundw
                  case rel => exact ⟨0 + 1, by omega, by go_num, congrArg Value.bool (by rw [Key.out, Hth.out, Hfi.out]; rfl), B7.out⟩
                  case measure => simp [intOf]; omega
            · obtain ⟨k', p, rfl, hpc, hpl, hgk⟩ := Hp5.out hk0
              clear Hp5
              have hkb : decide ((0 : Int) < (k' : Int) + 1) = true := decide_eq_true (by omega)
              have n3 : decide (f.id ≤ p.id) = false := decide_eq_false (by omega)
              have i1 : (0 : Int) ≤ (k' : Int) := by omega
              have i2 : (k' : Int) < (M.l.length : Int) := by omega
              have hwr : IntKind.i64.wrap (k' : Int) = k' := IntWalk.i64_in _ (by omega)
              go_region_held3 (fun W => W.cell? ⟨wr.heap.size, 0, none⟩ = some (.int .i64 f.id) ∧ W.cell? ⟨wr.heap.size, 1, none⟩ = some (.int .i64 f.t) ∧ W.cell? ⟨wr.heap.size, 2, none⟩ = some (.slice xa xn xc) ∧ W.cell? ⟨w4.heap.size, 1, none⟩ = some (.int .i64 f.t) ∧ W.cell? ⟨w4.heap.size, 2, none⟩ = some (.slice ua un uc) ∧ W.cell? ⟨gk, k' * 3, none⟩ = some (.int .i64 p.id)) (go_keep)
                (first
                  | (go_at_call 13; refine (last_any b mm M _ M6.out).mono ?_; rintro e w' ⟨rfl, rfl⟩)
                  | (go_at_call 23; refine (same_any _ _ f.s f.s _ U6.out S6.out).mono ?_; rintro e w6 ⟨rfl, nq, rfl⟩; rw [show decide (f.s = f.s) = true from by simp])
                  | (go_at_call 15; refine (Hfind.out _ ((Only.refl [] _).drewN _)).mono ?_; rintro e w7 ⟨rfl, hb7, hz7⟩; have z0 := (hb7.cell (p := ⟨wr.heap.size, 0, none⟩) (by simp only; omega)).trans x0; have z1 := (hb7.cell (p := ⟨wr.heap.size, 1, none⟩) (by simp only; omega)).trans x1; have z2 := (hb7.cell (p := ⟨wr.heap.size, 2, none⟩) (by simp only; omega)).trans x2; have z3 := (hb7.cell (p := ⟨w4.heap.size, 1, none⟩) (by simp only; omega)).trans y1; have z4 := (hb7.cell (p := ⟨w4.heap.size, 2, none⟩) (by simp only; omega)).trans y2; have z5 := (hb7.cell (p := ⟨gk, k' * 3, none⟩) (by simp only; omega)).trans hpc; have Hb7 := hide hb7; clear hb7))
              have hkey : hasId (M.l.take ((k' + 1) + 1)) id = (hasId (M.l.take (k' + 1)) id || f.id == id) := by rw [List.take_succ_eq_append_getElem hlm, Hf.out, hasId_snoc]
              have Key := hide hkey
              have B7 := hide (B5.out.trans (Hb7.out.mono (by omega)))
              clear hkey x0 x1 x2 x3 y0 y1 y2 y3 z1 z2 z3 z4 z5 hpc
              cases hth : hasId (M.l.take (k' + 1)) id with
              | true =>
                have Hth := hide hth
                go_wp2
                go_roundw
                case rel => exact ⟨(k' + 1) + 1, by omega, by go_num, congrArg Value.bool (by rw [Key.out, Hth.out]; rfl), B7.out⟩
                case measure => simp [intOf]; omega
              | false =>
                have Hth := hide hth
                cases hfi : (f.id == id) with
                | true =>
                  have Hfi := hide hfi
                  go_wp2
                  go_roundw
                  case rel => exact ⟨(k' + 1) + 1, by omega, by go_num, congrArg Value.bool (by rw [Key.out, Hth.out, Hfi.out]; rfl), B7.out⟩
                  case measure => simp [intOf]; omega
                | false =>
                  have Hfi := hide hfi
                  go_wp2
                  go_roundw
                  case rel => exact ⟨(k' + 1) + 1, by omega, by go_num, congrArg Value.bool (by rw [Key.out, Hth.out, Hfi.out]; rfl), B7.out⟩
                  case measure => simp [intOf]; omega
          · obtain rfl : k = out.length := by omega
            have hfull : M.l.take out.length = M.l := List.take_of_length_le (by omega)
            have MR := hide (MW.out.below hBB.out)
            have BR := hide (BW.out.trans (hBB.out.mono (by omega)))
            have hzr : w.heap.size ≤ wr.heap.size := by have := hBB.out.size; omega
            rw [hfull]
            clear hfull
            cases hex : hasId M.l id with
            | true =>
              obtain ⟨f, hf, hfi⟩ := hasId_yes hex
              have hget := get_yes b mm M Ok.out wr MR.out f hf
              rw [hfi] at hget
              have Hget := hide hget
              clear hget hf hfi hex
              go_wp2_with fail
              refine Hget.out.mono ?_
              rintro e w4 ⟨u, rfl, hsu, _, hb4⟩
              obtain ⟨ua, un, uc, rfl⟩ := hsu.form
              have hz4 : w.heap.size ≤ w4.heap.size := by have := hb4.size; omega
              have M4 := hide (MR.out.below hb4)
              have B4 := hide (BR.out.trans (hb4.mono hzr))
              have hlen4 := fun o => len_any b mm M (w4.alloc o) (M4.out.only ((Only.refl [] w4).alloc o) (by simp) (by simp) (by simp))
              have Hlen4 := hide hlen4
              clear hlen4 hsu hb4
              go_wp2_with fail
              refine (Hlen4.out _).mono ?_
              rintro e w' ⟨rfl, rfl⟩
              go_wp2_with (go_at_call 16; refine (known5 _).mono ?_; rintro e w' ⟨rfl, hb⟩)
              go_ret
              exact ⟨rfl, (B4.out.alloc hz4 _).trans (hb.mono (by simp; omega))⟩
            | false =>
              have hget := get_no b mm M wr MR.out id (hasId_no hex)
              have Hget := hide hget
              clear hget hex
              go_wp2_with fail
              refine Hget.out.mono ?_
              rintro e w4 ⟨u, rfl, hsu, _, hb4⟩
              obtain ⟨ua, un, uc, rfl⟩ := hsu.form
              have hz4 : w.heap.size ≤ w4.heap.size := by have := hb4.size; omega
              have M4 := hide (MR.out.below hb4)
              have B4 := hide (BR.out.trans (hb4.mono hzr))
              have hlen4 := fun o => len_any b mm M (w4.alloc o) (M4.out.only ((Only.refl [] w4).alloc o) (by simp) (by simp) (by simp))
              have Hlen4 := hide hlen4
              clear hlen4 hsu hb4
              go_wp2_with fail
              refine (Hlen4.out _).mono ?_
              rintro e w' ⟨rfl, rfl⟩
              go_wp2_with (go_at_call 16; refine (known5 _).mono ?_; rintro e w' ⟨rfl, hb⟩)
              go_ret
              exact ⟨rfl, (B4.out.alloc hz4 _).trans (hb.mono (by simp; omega))⟩
end Go.Proofs.Yteealadflekffaa
