/- slices.DeleteFunc over ints and justifications of a row of one's own, whatever is asked. -/
import Derived.Test.YtmcajoccfbebiaaTr2
namespace Go.Proofs.Ytmcajoccfbebiaa
open Go Go.RowKit Go.MapKept Go.Sort

theorem int_zero (w : World) : (zeroValue 3).run Try.prog w = .ok (.int .i64 0) w := by kernel_rfl

/-- What is left of a row, when its first j have been asked: i of them stay. -/
structure Left {α : Type} (f : α → Value) (l : List α) (p : α → Bool) (w : World) (g : Nat) (cap : Nat) (t : TypeId) (wr : World) (i j : Nat) : Prop where
  row : ∃ cl : List Value, wr.heap[g]? = some (.cells cl.toArray t (0, 0)) ∧ cl.length = cap ∧ cl.take i = ((l.take j).filter fun x => !p x).map f ∧ ∀ q (h : q < l.length), j ≤ q → cl[q]? = some (f l[q])
  cnt : ((l.take j).filter fun x => !p x).length = i
  only : Only [g] w wr
theorem Left.lt {α : Type} {f : α → Value} {l : List α} {p : α → Bool} {w : World} {g cap : Nat} {t : TypeId} {wr : World} {i j : Nat} (h : Left f l p w g cap t wr i j) : i ≤ j := by
  have := List.length_filter_le (fun x => !p x) (l.take j)
  rw [h.cnt, List.length_take] at this
  omega
theorem Left.cell {α : Type} {f : α → Value} {l : List α} {p : α → Bool} {w : World} {g cap : Nat} {t : TypeId} {wr : World} {i j : Nat} (h : Left f l p w g cap t wr i j) (hj : j < l.length) : wr.cell? ⟨g, j, none⟩ = some (f l[j]) := by
  obtain ⟨cl, hg, _, _, hd⟩ := h.row
  have := hd j hj (Nat.le_refl _)
  simpa [World.cell?, hg] using this
theorem Left.drop {α : Type} {f : α → Value} {l : List α} {p : α → Bool} {w : World} {g cap : Nat} {t : TypeId} {wr V : World} {i j : Nat} (h : Left f l p w g cap t wr i j) (hg : g < wr.heap.size) (hj : j < l.length) (hp : p l[j] = true) (hb : Below wr.heap.size wr V) : Left f l p w g cap t V i (j + 1) := by
  obtain ⟨cl, h1, h2, h3, h4⟩ := h.row
  have e : (l.take (j + 1)).filter (fun x => !p x) = (l.take j).filter fun x => !p x := by
    rw [List.take_succ_eq_append_getElem hj, List.filter_append]
    simp [hp]
  exact ⟨⟨cl, (hb.block g hg).trans h1, h2, by rw [e]; exact h3, fun q hq hjq => h4 q hq (by omega)⟩, by rw [e]; exact h.cnt, h.only.trans (Only.of_below hb _)⟩
theorem Left.keep {α : Type} {f : α → Value} {l : List α} {p : α → Bool} {w : World} {g cap : Nat} {t : TypeId} {wr V : World} {i j : Nat} (h : Left f l p w g cap t wr i j) (hg : g < wr.heap.size) (hc : l.length ≤ cap) (hj : j < l.length) (hp : p l[j] = false) (hb : Below wr.heap.size wr V) : Left f l p w g cap t (V.setCell ⟨g, i, none⟩ (f l[j])) (i + 1) (j + 1) := by
  have hij := h.lt
  obtain ⟨cl, h1, h2, h3, h4⟩ := h.row
  have e : (l.take (j + 1)).filter (fun x => !p x) = ((l.take j).filter fun x => !p x) ++ [l[j]] := by
    rw [List.take_succ_eq_append_getElem hj, List.filter_append]
    simp [hp]
  have hV : V.heap[g]? = some (.cells cl.toArray t (0, 0)) := (hb.block g hg).trans h1
  refine ⟨⟨cl.set i (f l[j]), ?_, by simpa using h2, ?_, fun q hq hjq => ?_⟩, by rw [e]; simp [h.cnt], (h.only.trans (Only.of_below hb _)).setCell (.inl (by simp)) _⟩
  · rw [setCell_heap hV]
    simp
  · rw [e, List.map_append, ← h3]
    have hi : i < cl.length := by omega
    rw [List.take_succ_eq_append_getElem (by simpa using hi), List.getElem_set_self, List.take_set_of_le (Nat.le_refl _)]
    rfl
  · rw [List.getElem?_set_ne (by omega)]
    exact h4 q hq (by omega)
theorem Left.frozen {α : Type} {f : α → Value} {l : List α} {p : α → Bool} {w : World} {g cap : Nat} {t : TypeId} {wr V : World} {i j : Nat} (h : Left f l p w g cap t wr i j) (hg : g < wr.heap.size) (hb : Below wr.heap.size wr V) (o : Nat) : V.frozen? ⟨g, o, none⟩ = false := by
  obtain ⟨cl, h1, _⟩ := h.row
  have hV : V.heap[g]? = some (.cells cl.toArray t (0, 0)) := (hb.block g hg).trans h1
  simp [World.frozen?, hV]
theorem Left.there {α : Type} {f : α → Value} {l : List α} {p : α → Bool} {w : World} {g cap : Nat} {t : TypeId} {wr V : World} {i j : Nat} (h : Left f l p w g cap t wr i j) (hg : g < wr.heap.size) (hc : l.length ≤ cap) (hi : i < l.length) (hb : Below wr.heap.size wr V) : ∃ u, V.cell? ⟨g, i, none⟩ = some u := by
  obtain ⟨cl, h1, h2, _⟩ := h.row
  have hV : V.heap[g]? = some (.cells cl.toArray t (0, 0)) := (hb.block g hg).trans h1
  have hil : i < cl.length := by omega
  exact ⟨cl[i], by simp [World.cell?, hV, hil]⟩

theorem filter_first {α : Type} {l : List α} {p : α → Bool} {i : Nat} (hi : i < l.length) (h0 : ∀ j (h : j < l.length), j < i → p l[j] = false) (h1 : p l[i] = true) : (l.take (i + 1)).filter (fun x => !p x) = l.take i := by
  rw [List.take_succ_eq_append_getElem hi, List.filter_append]
  have : (l.take i).filter (fun x => !p x) = l.take i := List.filter_eq_self.2 fun x hx => by
    obtain ⟨j, hj, rfl⟩ := List.getElem_of_mem hx
    have hj' : j < i := by simp at hj; omega
    rw [List.getElem_take]
    simp [h0 j (by omega) hj']
  rw [this]
  simp [h1]

theorem idxJ_cases {α : Type} (l : List α) (p : α → Bool) : (idxJ l p = -1 ∧ ∀ x ∈ l, p x = false) ∨ ∃ (i : Nat) (h : i < l.length), idxJ l p = i ∧ p l[i] = true ∧ ∀ j (h : j < l.length), j < i → p l[j] = false := by
  unfold idxJ
  cases h : l.findIdx? p with
  | none =>
    rw [List.findIdx?_eq_none_iff] at h
    exact .inl ⟨rfl, fun x hx => by simpa using h x hx⟩
  | some i =>
    obtain ⟨hi, hp, h0⟩ := List.findIdx?_eq_some_iff_getElem.1 h
    exact .inr ⟨i, hi, rfl, hp, fun j hj hji => by simpa using h0 j hji⟩

set_option maxRecDepth 100000 in
set_option maxHeartbeats 2000000 in
theorem deleteI_any (fn : Nat) (caps : Array Value) (p : Int → Bool) (eg : ∀ args w, (callFunc fn args).run Try.prog w = .ok (.enter fn args) w) (B : Nat) (v : Value) (l : List Int) (w : World) (hl : l.length ≤ 1000000)
    (h : w.ownsRow B 3 1 v l.length (l.map (.int .i64))) (ha : AskI v.ownBlock.toList w fn caps p) :
    Calls Try.prog 59 #[v, .func (.func fn) #[] caps] w fun r w' => ∃ v', r = .returned v' ∧ w'.ownsRow B 3 1 v' (l.filter fun x => !p x).length ((l.filter fun x => !p x).map (.int .i64)) ∧ Only v.ownBlock.toList w w' ∧ (v'.ownBlock = v.ownBlock) := by
  have Hix := hide (indexI_any fn caps p eg v l w (NIs.of_row hl h) (fun z V hV => ha z V (hV.mono (by simp))))
  obtain ⟨va, vc, rfl⟩ := row_form h
  rcases idxJ_cases l p with ⟨e1, hno⟩ | ⟨i, hi, e1, hpi, h0⟩
  · rw [e1] at Hix
    have hfl : (l.filter fun x => !p x) = l := List.filter_eq_self.2 fun x hx => by simp [hno x hx]
    have HR := hide h
    clear h ha e1 hno
    rw [hfl]
    go_enter Try.func59, Try.ntmps59
    go_wp2_with fail
    (with_reducible refine Hix.out.mono ?_)
    rintro r V ⟨rfl, hb⟩
    have HB := hide hb
    clear hb
    go_wp2
    go_ret
    exact ⟨_, rfl, owns_below HR.out HB.out, Only.of_below HB.out _, rfl⟩
  · rw [e1] at Hix
    rcases h.2 with ⟨e, hz⟩ | ⟨g, cap, cur, e, hB, hg, hc, hcm, hcs, hct⟩
    · omega
    injection e with e2 e3 e4
    subst e2 e4
    obtain ⟨cl, rfl⟩ : ∃ cl : List Value, cur = cl.toArray := ⟨cur.toList, by simp⟩
    have hcl : cl.length = vc := by simpa using hcs
    have hgl : g < w.heap.size := lt_of_heap hg
    have hct' : cl.take l.length = l.map (.int .i64) := by simpa using hct
    have hcq : ∀ q (hq : q < l.length), cl[q]? = some (.int .i64 l[q]) := fun q hq => by
      have := congrArg (fun (k : List Value) => k[q]?) hct'
      simp only [List.getElem?_take, if_pos hq, List.getElem?_map, List.getElem?_eq_getElem hq, Option.map_some] at this
      exact this
    unfold maxLen at hcm
    have HL : Hid (∀ V, Below w.heap.size w V → Left (Value.int .i64) l p w g vc 3 V i (i + 1)) := hide fun V hV => by
      have ef := filter_first hi h0 hpi
      refine ⟨⟨cl, (hV.block g hgl).trans hg, hcl, ?_, fun q hq _ => hcq q hq⟩, by rw [ef]; simp; omega, Only.of_below hV _⟩
      rw [ef, List.map_take, ← hct', List.take_take, Nat.min_eq_left (by omega)]
    have HA := hide ha
    have hsz := hide hgl
    have hne : ((i : Int) == -1) = false := by
      simp only [beq_eq_false_iff_ne, ne_eq]
      omega
    clear h ha e1 h0 hpi hcs hct hct' hcq hg hcl
    go_enter Try.func59, Try.ntmps59
    go_wp2_with fail
    (with_reducible refine Hix.out.mono ?_)
    rintro r V ⟨rfl, hb⟩
    have HV := hide (HL.out V hb)
    clear hb HL Hix
    go_wp2_with fail
    go_loopw [5, 6] (fun vi vj wr => ∃ i' j : Nat, j ≤ l.length ∧ i' < j ∧ vi = .int .i64 i' ∧ vj = .int .i64 j ∧ Hid (Left (Value.int .i64) l p w g vc 3 wr i' j)) (fun _ j _ => l.length - (intOf j).toNat)
    case atStart => exact ⟨i, i + 1, by omega, by omega, rfl, by go_num, HV.out⟩
    case round =>
      obtain ⟨i', j, hj, hij, rfl, rfl, hL⟩ := hrel
      by_cases hlt : j < l.length
      · have hgw : g < wr.heap.size := Nat.lt_of_lt_of_le hsz.out hL.out.only.size
        have c0 := hL.out.cell hlt
        have hq := HA.out l[j] wr (hL.out.only.mono (by simp [Value.ownBlock]))
        have hkeep : p l[j] = false → ∀ V, Below wr.heap.size wr V → Hid (Left (Value.int .i64) l p w g vc 3 (V.setCell ⟨g, i', none⟩ (.int .i64 l[j])) (i' + 1) (j + 1)) := fun hp V hV => hide (hL.out.keep hgw hc hlt hp hV)
        have hdrop : p l[j] = true → ∀ V, Below wr.heap.size wr V → Hid (Left (Value.int .i64) l p w g vc 3 V i' (j + 1)) := fun hp V hV => hide (hL.out.drop hgw hlt hp hV)
        obtain ⟨z, hz⟩ : ∃ z, l[j] = z := ⟨_, rfl⟩
        rw [hz] at c0 hq hkeep hdrop
        obtain ⟨q, hpq⟩ : ∃ q, p z = q := ⟨_, rfl⟩
        rw [hpq] at hq hkeep hdrop
        have Hq := hide hq
        have Hkeep := hide hkeep
        have Hdrop := hide hdrop
        have i1 : (j : Int) < (l.length : Int) := by omega
        have i2 : (0 : Int) ≤ (j : Int) := by omega
        have i3 : (i' : Int) < (l.length : Int) := by omega
        have i4 : (0 : Int) ≤ (i' : Int) := by omega
        clear hq hkeep hdrop hz hpq
        go_wp2_with fail
        (with_reducible refine Hq.out.mono ?_)
        rintro r V2 ⟨rfl, hb2⟩
        obtain ⟨u, hu⟩ := hL.out.there hgw hc (by omega) hb2
        have hfz := hL.out.frozen hgw hb2 i'
        cases q
        · have HN := Hkeep.out rfl V2 hb2
          clear hb2 Hkeep Hdrop c0 hL
          go_wp2
          go_roundw
          case rel => exact ⟨i' + 1, j + 1, by omega, by omega, by go_num, by go_num, HN.out⟩
          case measure => simp [intOf]; omega
        · have HN := Hdrop.out rfl V2 hb2
          clear hb2 Hkeep Hdrop c0 hL hu hfz
          go_wp2
          go_roundw
          case rel => exact ⟨i', j + 1, by omega, by omega, rfl, by go_num, HN.out⟩
          case measure => simp [intOf]; omega
      · obtain rfl : j = l.length := by omega
        obtain ⟨cl2, k1, k2, k3, _⟩ := hL.out.row
        have kc := hL.out.cnt
        rw [List.take_length] at k3 kc
        have HO := hide hL.out.only
        have Hk1 := hide k1
        have Hk2 := hide k2
        have Hk3 := hide k3
        have Hkc := hide kc
        have hzv := int_zero
        have Hzv := hide hzv
        have b1 : ¬ vc = i' := by omega
        have b2 : i' ≤ vc := by omega
        have b3 : (i' : Int) ≤ (l.length : Int) := by omega
        have b4 : (0 : Int) ≤ (i' : Int) := by omega
        have b5 : (i' : Int) ≤ (vc : Int) := by omega
        have b6 : (l.length : Int) ≤ (vc : Int) := by omega
        clear k1 k2 k3 kc hL hzv
        go_wp2_with ((with_reducible refine wpList_clearK rfl (.tmp 38) 36 rfl 3 (.int .i64 0) 1 Try.underlying36 Hzv.out rfl (by simp [Value.cells, Value.oneCell']) g i' (l.length - i') (vc - i') rfl cl2 3 Hk1.out (by omega) (by rw [Hk2.out]; omega) ?_); intro w2 zs hzl hw2 ho2 hz2; have Hw2 := hide hw2; have Ho2 := hide ho2; have Hzl := hide hzl; clear hzl hw2 ho2 hz2)
        go_ret
        have hres : w2.ownsRow B 3 1 (.slice (some ⟨g, 0, none⟩) i' vc) (l.filter fun x => !p x).length ((l.filter fun x => !p x).map (.int .i64)) := by
          rw [Hkc.out]
          refine ⟨by simp [Hkc.out], .inr ⟨g, vc, _, rfl, hB, Hw2.out, b2, by unfold maxLen; omega, ?_, ?_⟩⟩
          · have := length_splice cl2 i' zs (by rw [Hzl.out, Hk2.out]; omega)
            simp only [List.size_toArray]
            rw [this, Hk2.out]
            simp
          · simp only
            rw [Nat.mul_one, splice_before _ _ _ (by rw [Hzl.out, Hk2.out]; omega) (Nat.le_refl _)]
            exact Hk3.out
        exact ⟨_, rfl, hres, HO.out.trans Ho2.out, rfl⟩
end Go.Proofs.Ytmcajoccfbebiaa
