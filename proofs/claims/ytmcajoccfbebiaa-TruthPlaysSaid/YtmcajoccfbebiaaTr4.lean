/- slices.DeleteFunc over justifications of a row of one's own, whatever is asked; their slices cloned. -/
import Derived.Test.YtmcajoccfbebiaaTr3
namespace Go.Proofs.Ytmcajoccfbebiaa
open Go Go.RowKit Go.MapKept Go.Sort

/-- The cells of justifications. -/
def jflat : List Jc → List Value
  | [] => []
  | j :: l => .int .i64 j.rule :: j.x :: jflat l
theorem jflat_append (l m : List Jc) : jflat (l ++ m) = jflat l ++ jflat m := by
  induction l with
  | nil => rfl
  | cons j l ih => simp [jflat, ih]
theorem jflat_length (l : List Jc) : (jflat l).length = l.length * 2 := by
  induction l with
  | nil => rfl
  | cons j l ih => simp [jflat, ih]; omega
theorem jflat_take (l : List Jc) (i : Nat) : (jflat l).take (i * 2) = jflat (l.take i) := by
  induction l generalizing i with
  | nil => simp [jflat]
  | cons j l ih =>
    cases i with
    | zero => simp [jflat]
    | succ i => rw [show (i + 1) * 2 = i * 2 + 2 by omega]; simp [jflat, ih]
theorem jflat_get : ∀ (l : List Jc) (i : Nat) (h : i < l.length), (jflat l)[i * 2]? = some (.int .i64 l[i].rule) ∧ (jflat l)[i * 2 + 1]? = some l[i].x
  | [], i, h => by simp at h
  | j :: l, 0, _ => ⟨rfl, rfl⟩
  | j :: l, i + 1, h => by
    have := jflat_get l i (by simpa using h)
    rw [show (i + 1) * 2 = i * 2 + 2 by omega, show i * 2 + 2 + 1 = i * 2 + 1 + 2 by omega]
    simpa [jflat] using this
theorem jflat_one (l : List Jc) (h : ∀ j ∈ l, ∃ a n c, j.x = .slice a n c) : ∀ u ∈ jflat l, u.oneCell' = true := by
  induction l with
  | nil => simp [jflat]
  | cons j l ih =>
    intro u hu
    obtain ⟨a, n, c, hx⟩ := h j (.head _)
    simp only [jflat, List.mem_cons] at hu
    rcases hu with rfl | rfl | hu
    · rfl
    · rw [hx]; rfl
    · exact ih (fun j hj => h j (.tail _ hj)) u hu

theorem JsIs.of_row {w : World} {B : Nat} {v : Value} {l : List Jc} (hl : l.length ≤ 1000000) (h : w.ownsRow B 53 2 v l.length (jflat l)) (ht : ∀ j ∈ l, NIs w j.x j.tup) : JsIs w v l := by
  refine ⟨hl, ?_, ht, ?_⟩
  · rcases h.2 with ⟨rfl, h0⟩ | ⟨g, cap, cur, rfl, _⟩
    · exact .inr ⟨List.eq_nil_of_length_eq_zero h0, .inl rfl⟩
    · refine .inl ⟨g, 0, cap, rfl, fun i hi => ?_⟩
      obtain ⟨h0, h1⟩ := jflat_get l i hi
      have c := h.cells (g := g) rfl
      have c0 := c _ _ h0
      have c1 := c _ _ h1
      simp only [Addr.add_lit] at c0 c1
      refine ⟨c0, ?_⟩
      rw [show 0 + i * 2 + 1 = 0 + (i * 2 + 1) by omega]; exact c1
  · rcases h.2 with ⟨rfl, h0⟩ | ⟨g, cap, cur, rfl, _, _, hc, _⟩
    · exact Nat.le_refl _
    · exact hc

/-- What is left of a row, when its first j have been asked: i of them stay. -/
structure LeftJ (l : List Jc) (p : Jc → Bool) (w : World) (g : Nat) (cap : Nat) (wr : World) (i j : Nat) : Prop where
  row : ∃ cl : List Value, wr.heap[g]? = some (.cells cl.toArray 53 (0, 0)) ∧ cl.length = cap * 2 ∧ cl.take (i * 2) = jflat ((l.take j).filter fun x => !p x) ∧ ∀ q (h : q < l.length), j ≤ q → cl[q * 2]? = some (.int .i64 l[q].rule) ∧ cl[q * 2 + 1]? = some l[q].x
  cnt : ((l.take j).filter fun x => !p x).length = i
  only : Only [g] w wr
theorem LeftJ.lt {l : List Jc} {p : Jc → Bool} {w : World} {g cap : Nat} {wr : World} {i j : Nat} (h : LeftJ l p w g cap wr i j) : i ≤ j := by
  have := List.length_filter_le (fun x => !p x) (l.take j)
  rw [h.cnt, List.length_take] at this
  omega
theorem LeftJ.cell {l : List Jc} {p : Jc → Bool} {w : World} {g cap : Nat} {wr : World} {i j : Nat} (h : LeftJ l p w g cap wr i j) (hj : j < l.length) : wr.cell? ⟨g, j * 2, none⟩ = some (.int .i64 l[j].rule) ∧ wr.cell? ⟨g, j * 2 + 1, none⟩ = some l[j].x := by
  obtain ⟨cl, hg, _, _, hd⟩ := h.row
  obtain ⟨h0, h1⟩ := hd j hj (Nat.le_refl _)
  exact ⟨by simpa [World.cell?, hg] using h0, by simpa [World.cell?, hg] using h1⟩
theorem LeftJ.drop {l : List Jc} {p : Jc → Bool} {w : World} {g cap : Nat} {wr V : World} {i j : Nat} (h : LeftJ l p w g cap wr i j) (hg : g < wr.heap.size) (hj : j < l.length) (hp : p l[j] = true) (hb : Below wr.heap.size wr V) : LeftJ l p w g cap V i (j + 1) := by
  obtain ⟨cl, h1, h2, h3, h4⟩ := h.row
  have e : (l.take (j + 1)).filter (fun x => !p x) = (l.take j).filter fun x => !p x := by
    rw [List.take_succ_eq_append_getElem hj, List.filter_append]
    simp [hp]
  exact ⟨⟨cl, (hb.block g hg).trans h1, h2, by rw [e]; exact h3, fun q hq hjq => h4 q hq (by omega)⟩, by rw [e]; exact h.cnt, h.only.trans (Only.of_below hb _)⟩
theorem LeftJ.keep {l : List Jc} {p : Jc → Bool} {w : World} {g cap : Nat} {wr V : World} {i j : Nat} (h : LeftJ l p w g cap wr i j) (hg : g < wr.heap.size) (hc : l.length ≤ cap) (hj : j < l.length) (hp : p l[j] = false) (hb : Below wr.heap.size wr V) :
    LeftJ l p w g cap ((V.setCell ⟨g, i * 2, none⟩ (.int .i64 l[j].rule)).setCell ⟨g, i * 2 + 1, none⟩ l[j].x) (i + 1) (j + 1) := by
  have hij := h.lt
  obtain ⟨cl, h1, h2, h3, h4⟩ := h.row
  have e : (l.take (j + 1)).filter (fun x => !p x) = ((l.take j).filter fun x => !p x) ++ [l[j]] := by
    rw [List.take_succ_eq_append_getElem hj, List.filter_append]
    simp [hp]
  have hV : V.heap[g]? = some (.cells cl.toArray 53 (0, 0)) := (hb.block g hg).trans h1
  refine ⟨⟨(cl.set (i * 2) (.int .i64 l[j].rule)).set (i * 2 + 1) l[j].x, ?_, by simpa using h2, ?_, fun q hq hjq => ?_⟩, by rw [e]; simp [h.cnt], ((h.only.trans (Only.of_below hb _)).setCell (.inl (by simp)) _).setCell (.inl (by simp)) _⟩
  · have hV1 := setCell_heap (i := i * 2) (u := .int .i64 l[j].rule) hV
    rw [setCell_heap hV1]
    simp
  · rw [e, jflat_append, ← h3, show (i + 1) * 2 = i * 2 + 1 + 1 by omega]
    have hi : i * 2 + 1 < cl.length := by omega
    rw [List.take_succ_eq_append_getElem (by simpa using hi), List.getElem_set_self, List.take_set_of_le (Nat.le_refl _), List.take_succ_eq_append_getElem (by simp; omega), List.getElem_set_self, List.take_set_of_le (Nat.le_refl _)]
    simp [jflat]
  · rw [List.getElem?_set_ne (by omega), List.getElem?_set_ne (by omega), List.getElem?_set_ne (by omega), List.getElem?_set_ne (by omega)]
    exact h4 q hq (by omega)
theorem LeftJ.frozen {l : List Jc} {p : Jc → Bool} {w : World} {g cap : Nat} {wr V : World} {i j : Nat} (h : LeftJ l p w g cap wr i j) (hg : g < wr.heap.size) (hb : Below wr.heap.size wr V) (o : Nat) : V.frozen? ⟨g, o, none⟩ = false := by
  obtain ⟨cl, h1, _⟩ := h.row
  have hV : V.heap[g]? = some (.cells cl.toArray 53 (0, 0)) := (hb.block g hg).trans h1
  simp [World.frozen?, hV]
theorem LeftJ.there {l : List Jc} {p : Jc → Bool} {w : World} {g cap : Nat} {wr V : World} {i j : Nat} (h : LeftJ l p w g cap wr i j) (hg : g < wr.heap.size) (hc : l.length ≤ cap) (hi : i < l.length) (hb : Below wr.heap.size wr V) : ∃ u u', V.cell? ⟨g, i * 2, none⟩ = some u ∧ V.cell? ⟨g, i * 2 + 1, none⟩ = some u' := by
  obtain ⟨cl, h1, h2, _⟩ := h.row
  have hV : V.heap[g]? = some (.cells cl.toArray 53 (0, 0)) := (hb.block g hg).trans h1
  have hil : i * 2 < cl.length := by omega
  have hil1 : i * 2 + 1 < cl.length := by omega
  exact ⟨cl[i * 2], cl[i * 2 + 1], by simp [World.cell?, hV, hil], by simp [World.cell?, hV, hil1]⟩

theorem just_zero (w : World) : (zeroValue 53).run Try.prog w = .ok (.agg #[.int .i64 0, .slice none 0 0]) w := by kernel_rfl

set_option maxRecDepth 100000 in
set_option maxHeartbeats 2000000 in
theorem deleteJ_any (fn : Nat) (caps : Array Value) (p : Jc → Bool) (eg : ∀ args w, (callFunc fn args).run Try.prog w = .ok (.enter fn args) w) (B : Nat) (v : Value) (l : List Jc) (w : World) (hl : l.length ≤ 1000000)
    (h : w.ownsRow B 53 2 v l.length (jflat l)) (ht : ∀ j ∈ l, ∀ V, Only v.ownBlock.toList w V → NIs V j.x j.tup) (ha : AskJ v.ownBlock.toList w fn caps p) :
    Calls Try.prog 78 #[v, .func (.func fn) #[] caps] w fun r w' => ∃ v', r = .returned v' ∧ w'.ownsRow B 53 2 v' (l.filter fun x => !p x).length (jflat (l.filter fun x => !p x)) ∧ Only v.ownBlock.toList w w' ∧ (v'.ownBlock = v.ownBlock) := by
  have Hix := hide (indexJ_any fn caps p eg v l w (JsIs.of_row hl h (fun j hj => ht j hj w (Only.refl _ _))) (fun z V hV => ha z V (hV.mono (by simp))))
  obtain ⟨va, vc, rfl⟩ := row_form h
  rcases idxJ_cases l p with ⟨e1, hno⟩ | ⟨i, hi, e1, hpi, h0⟩
  · rw [e1] at Hix
    have hfl : (l.filter fun x => !p x) = l := List.filter_eq_self.2 fun x hx => by simp [hno x hx]
    have HR := hide h
    clear h ha e1 hno ht
    rw [hfl]
    go_enter Try.func78, Try.ntmps78
    go_wp2_with fail
    (with_reducible refine Hix.out.mono ?_)
    rintro r V ⟨rfl, hb⟩
    have HB := hide hb
    clear hb
    go_wp2
    go_ret
    exact ⟨_, rfl, owns_below HR.out HB.out, Only.of_below HB.out _, rfl⟩
  · rw [e1] at Hix
    rcases h.2 with ⟨e, hz⟩ | ⟨g, cap, cur, e, hB, hg, hc, hcm, hcs, hct⟩
    · omega
    injection e with e2 e3 e4
    subst e2 e4
    obtain ⟨cl, rfl⟩ : ∃ cl : List Value, cur = cl.toArray := ⟨cur.toList, by simp⟩
    have hcl : cl.length = vc * 2 := by simpa using hcs
    have hgl : g < w.heap.size := lt_of_heap hg
    have hct' : cl.take (l.length * 2) = jflat l := by simpa using hct
    have hcq : ∀ q (hq : q < l.length), cl[q * 2]? = some (.int .i64 l[q].rule) ∧ cl[q * 2 + 1]? = some l[q].x := fun q hq => by
      obtain ⟨k0, k1⟩ := jflat_get l q hq
      rw [← hct', List.getElem?_take, if_pos (by omega)] at k0 k1
      exact ⟨k0, k1⟩
    unfold maxLen at hcm
    have HL : Hid (∀ V, Below w.heap.size w V → LeftJ l p w g vc V i (i + 1)) := hide fun V hV => by
      have ef := filter_first hi h0 hpi
      refine ⟨⟨cl, (hV.block g hgl).trans hg, hcl, ?_, fun q hq _ => hcq q hq⟩, by rw [ef]; simp; omega, Only.of_below hV _⟩
      rw [ef, ← jflat_take, ← hct', List.take_take, Nat.min_eq_left (by omega)]
    have HA := hide ha
    have HT := hide ht
    have hsz := hide hgl
    have hne : ((i : Int) == -1) = false := by
      simp only [beq_eq_false_iff_ne, ne_eq]
      omega
    clear h ha e1 h0 hpi hcs hct hct' hcq hg hcl ht
    go_enter Try.func78, Try.ntmps78
    go_wp2_with fail
    (with_reducible refine Hix.out.mono ?_)
    rintro r V ⟨rfl, hb⟩
    have HV := hide (HL.out V hb)
    clear hb HL Hix
    go_wp2_with fail
    go_loopw [5, 6] (fun vi vj wr => ∃ i' j : Nat, j ≤ l.length ∧ i' < j ∧ vi = .int .i64 i' ∧ vj = .int .i64 j ∧ Hid (LeftJ l p w g vc wr i' j)) (fun _ j _ => l.length - (intOf j).toNat)
    case atStart => exact ⟨i, i + 1, by omega, by omega, rfl, by go_num, HV.out⟩
    case round =>
      obtain ⟨i', j, hj, hij, rfl, rfl, hL⟩ := hrel
      by_cases hlt : j < l.length
      · have hgw : g < wr.heap.size := Nat.lt_of_lt_of_le hsz.out hL.out.only.size
        obtain ⟨c0, c1⟩ := hL.out.cell hlt
        have hLo : Only (Value.ownBlock (.slice (some ⟨g, 0, none⟩) l.length vc)).toList w wr := hL.out.only.mono (by simp [Value.ownBlock])
        have htj := HT.out _ (List.getElem_mem hlt) wr hLo
        obtain ⟨ja, jc, hjx⟩ := htj.form
        have hkeep : p l[j] = false → ∀ V, Below wr.heap.size wr V → Hid (LeftJ l p w g vc ((V.setCell ⟨g, i' * 2, none⟩ (.int .i64 l[j].rule)).setCell ⟨g, i' * 2 + 1, none⟩ l[j].x) (i' + 1) (j + 1)) := fun hp V hV => hide (hL.out.keep hgw hc hlt hp hV)
        have hdrop : p l[j] = true → ∀ V, Below wr.heap.size wr V → Hid (LeftJ l p w g vc V i' (j + 1)) := fun hp V hV => hide (hL.out.drop hgw hlt hp hV)
        obtain ⟨W, hW⟩ : ∃ W, wr.alloc (Obj.cells #[.int .i64 l[j].rule, l[j].x] 53) = W := ⟨_, rfl⟩
        have hbW : Below wr.heap.size wr W := by rw [← hW]; exact ((Only.refl [] wr).alloc _).below
        have hbx := heap_alloc0 wr (Obj.cells #[.int .i64 l[j].rule, l[j].x] 53)
        have hzW : W.heap.size = wr.heap.size + 1 := by rw [← hW]; simp
        rw [hW] at hbx
        have hq := HA.out l[j] W (hLo.trans (Only.of_below hbW _)) (htj.below hbW)
        obtain ⟨Z, hz⟩ : ∃ Z, l[j] = Z := ⟨_, rfl⟩
        rw [hz] at c0 c1 hq hkeep hdrop hW hbx hjx
        obtain ⟨zr, zt, zx⟩ := Z
        simp only at hjx
        subst hjx
        obtain ⟨q, hpq⟩ : ∃ q, p ⟨zr, zt, .slice ja zt.length jc⟩ = q := ⟨_, rfl⟩
        rw [hpq] at hq hkeep hdrop
        unfold Jc.val at hq
        simp only at c0 c1 hq hW hbx
        obtain ⟨d0, d1, _, _⟩ := cells2e hbx
        have Hq := hide hq
        have Hkeep := hide hkeep
        have Hdrop := hide hdrop
        have HW := hide hW
        have HbW := hide hbW
        have Hd : Hid (∀ V, Below W.heap.size W V → V.cell? ⟨wr.heap.size, 0, none⟩ = some (.int .i64 zr) ∧ V.cell? ⟨wr.heap.size, 1, none⟩ = some (.slice ja zt.length jc)) := hide fun V hV =>
          have hz : wr.heap.size < W.heap.size := by omega
          ⟨(hV.cell (p := ⟨wr.heap.size, 0, none⟩) hz).trans d0, (hV.cell (p := ⟨wr.heap.size, 1, none⟩) hz).trans d1⟩
        have i1 : (j : Int) < (l.length : Int) := by omega
        have i2 : (0 : Int) ≤ (j : Int) := by omega
        have i3 : (i' : Int) < (l.length : Int) := by omega
        have i4 : (0 : Int) ≤ (i' : Int) := by omega
        clear hq hkeep hdrop hz hpq hW hbW hbx hzW htj hLo
        go_upto_region 8 with fail
        rw [HW.out]
        go_wp2_with fail
        (with_reducible refine Hq.out.mono ?_)
        rintro r V2 ⟨rfl, hb2⟩
        have hb3 := HbW.out.trans (hb2.mono HbW.out.size)
        obtain ⟨u, u', hu, hu'⟩ := hL.out.there hgw hc (by omega) hb3
        have hfz := hL.out.frozen hgw hb3 (i' * 2)
        have hfz' := hL.out.frozen hgw hb3 (i' * 2 + 1)
        obtain ⟨k0, k1⟩ := Hd.out V2 hb2
        cases q
        · have HN := Hkeep.out rfl V2 hb3
          clear hb2 hb3 Hkeep Hdrop c0 c1 d0 d1 hL
          go_wp2
          go_roundw
          case rel => exact ⟨i' + 1, j + 1, by omega, by omega, by go_num, by go_num, HN.out⟩
          case measure => simp [intOf]; omega
        · have HN := Hdrop.out rfl V2 hb3
          clear hb2 hb3 Hkeep Hdrop c0 c1 d0 d1 hL hu hu' hfz hfz' k0 k1
          go_wp2
          go_roundw
          case rel => exact ⟨i', j + 1, by omega, by omega, rfl, by go_num, HN.out⟩
          case measure => simp [intOf]; omega
      · obtain rfl : j = l.length := by omega
        obtain ⟨cl2, k1, k2, k3, _⟩ := hL.out.row
        have kc := hL.out.cnt
        rw [List.take_length] at k3 kc
        have HO := hide hL.out.only
        have Hk1 := hide k1
        have Hk2 := hide k2
        have Hk3 := hide k3
        have Hkc := hide kc
        have hzv := just_zero
        have Hzv := hide hzv
        have hzo : ∀ u ∈ (Value.agg #[.int .i64 0, .slice none 0 0]).cells.toList, u.oneCell' = true := by
          intro u hu
          simp only [Value.cells, List.mem_cons, List.not_mem_nil, or_false] at hu
          rcases hu with rfl | rfl <;> rfl
        have Hzo := hide hzo
        have b1 : ¬ vc = i' := by omega
        have b2 : i' ≤ vc := by omega
        have b3 : (i' : Int) ≤ (l.length : Int) := by omega
        have b4 : (0 : Int) ≤ (i' : Int) := by omega
        have b5 : (i' : Int) ≤ (vc : Int) := by omega
        have b6 : (l.length : Int) ≤ (vc : Int) := by omega
        clear k1 k2 k3 kc hL hzv hzo
        go_wp2_with ((with_reducible refine wpList_clearK rfl (.tmp 38) 60 rfl 53 (.agg #[.int .i64 0, .slice none 0 0]) 2 Try.underlying60 Hzv.out rfl Hzo.out g (i' * 2) (l.length - i') (vc - i') rfl cl2 53 Hk1.out (by omega) (by rw [Hk2.out]; omega) ?_); intro w2 zs hzl hw2 ho2 hz2; have Hw2 := hide hw2; have Ho2 := hide ho2; have Hzl := hide hzl; clear hzl hw2 ho2 hz2)
        go_ret
        have hres : w2.ownsRow B 53 2 (.slice (some ⟨g, 0, none⟩) i' vc) (l.filter fun x => !p x).length (jflat (l.filter fun x => !p x)) := by
          rw [Hkc.out]
          refine ⟨by rw [jflat_length, Hkc.out], .inr ⟨g, vc, _, rfl, hB, Hw2.out, b2, by unfold maxLen; omega, ?_, ?_⟩⟩
          · have := length_splice cl2 (i' * 2) zs (by rw [Hzl.out, Hk2.out]; omega)
            simp only [List.size_toArray]
            rw [this, Hk2.out]
          · simp only
            rw [splice_before _ _ _ (by rw [Hzl.out, Hk2.out]; omega) (Nat.le_refl _)]
            exact Hk3.out
        exact ⟨_, rfl, hres, HO.out.trans Ho2.out, rfl⟩

theorem jinfo : (Try.prog.info? 53).map (fun i => (i.zero, i.size, i.bytes)) = some (some (.agg #[.int .i64 0, .slice none 0 0]), 2, 32) := by kernel_rfl
theorem jinfo_parts : ∃ i, Try.prog.info? 53 = some i ∧ i.zero = some (.agg #[.int .i64 0, .slice none 0 0]) ∧ i.size = 2 ∧ i.bytes = 32 := by
  have h := jinfo
  cases hi : Try.prog.info? 53 with
  | none => simp [hi] at h
  | some i =>
    simp [hi] at h
    exact ⟨i, rfl, h.1, h.2.1, h.2.2⟩
end Go.Proofs.Ytmcajoccfbebiaa
