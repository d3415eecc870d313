/- witanref29's Book: Withdraw. -/
import Derived.Test.YtmcajoccfbebiaaRTC
namespace Go.Proofs.Ytmcajoccfbebiaa
open Go Go.RowKit Go.MapKept Go.Sort

/-- The document's facts, from the first i of which a justification is withdrawn. -/
structure RWi (L Lc : List Sp) (J : Jc) (i : Nat) : Prop where
  len : Lc.length = L.length
  old : ∀ k (h : k < L.length) (h' : k < Lc.length), i ≤ k → Lc[k] = L[k]
  new : ∀ k (h : k < L.length) (h' : k < Lc.length), k < i → Lc[k].id = L[k].id ∧ Lc[k].plain = L[k].plain ∧ Lc[k].js = L[k].js.filter fun y => !y.same J
theorem RWi.zero (L : List Sp) (J : Jc) : RWi L L J 0 := ⟨rfl, fun _ _ _ _ => rfl, fun _ _ _ h => by omega⟩
theorem RWi.step {L Lc : List Sp} {J : Jc} {i : Nat} (h : RWi L Lc J i) (hi : i < L.length) {q : Sp} (h1 : q.id = L[i].id) (h2 : q.plain = L[i].plain) (h3 : q.js = L[i].js.filter fun y => !y.same J) : RWi L (Lc.set i q) J (i + 1) := by
  refine ⟨by rw [List.length_set]; exact h.len, fun k hk hk' hik => ?_, fun k hk hk' hik => ?_⟩
  · rw [List.getElem_set_ne (by omega)]
    exact h.old k hk (by rw [h.len]; exact hk) (by omega)
  · rw [List.getElem_set]
    split
    · rename_i e
      subst e
      exact ⟨h1, h2, h3⟩
    · exact h.new k hk (by rw [h.len]; exact hk) (by omega)
theorem RWi.ids {L Lc : List Sp} {J : Jc} {i : Nat} (h : RWi L Lc J i) : Lc.map Sp.id = L.map Sp.id :=
  List.ext_getElem (by simp [h.len]) fun k h1 h2 => by
    rw [List.length_map] at h1 h2
    rw [List.getElem_map, List.getElem_map]
    rcases Nat.lt_or_ge k i with q | q
    · exact (h.new k h2 h1 q).1
    · rw [h.old k h2 h1 q]
theorem RWi.done {L Lc : List Sp} {J : Jc} (h : RWi L Lc J L.length) (ha : (L.map Sp.id).Pairwise (· < ·)) : RWd L Lc J := by
  have ha' : (Lc.map Sp.id).Pairwise (· < ·) := by rw [h.ids]; exact ha
  have key : ∀ x, (getD Lc x).plain = (getD L x).plain ∧ (getD Lc x).js = (getD L x).js.filter fun y => !y.same J := fun x => by
    by_cases hx : ∃ k, ∃ hk : k < L.length, L[k].id = x
    · obtain ⟨k, hk, rfl⟩ := hx
      have hk' : k < Lc.length := by rw [h.len]; exact hk
      obtain ⟨h1, h2, h3⟩ := h.new k hk hk' hk
      have e := getD_at ha' hk'
      rw [h1] at e
      rw [e, getD_at ha hk]
      exact ⟨h2, h3⟩
    · have h1 : ∀ p ∈ L, p.id ≠ x := fun p hp e => by
        obtain ⟨k, hk, rfl⟩ := List.getElem_of_mem hp
        exact hx ⟨k, hk, e⟩
      have h2 : ∀ p ∈ Lc, p.id ≠ x := fun p hp e => by
        have : x ∈ Lc.map Sp.id := List.mem_map.2 ⟨p, hp, e⟩
        rw [h.ids] at this
        obtain ⟨p', hp', e'⟩ := List.mem_map.1 this
        exact h1 p' hp' e'
      rw [getD_none h1, getD_none h2]
      exact ⟨rfl, rfl⟩
  exact ⟨h.ids, fun x => (key x).1, fun x => (key x).2⟩
/-- The ids of those that had it. -/
def hadR (L : List Sp) (J : Jc) : List Int := (L.filter fun p => p.js.any fun y => y.same J).map Sp.id
theorem hadR_snoc (L : List Sp) (J : Jc) {i : Nat} (hi : i < L.length) : hadR (L.take (i + 1)) J = hadR (L.take i) J ++ (if L[i].js.any fun y => y.same J then [L[i].id] else []) := by
  unfold hadR
  rw [List.take_succ_eq_append_getElem hi, List.filter_append, List.map_append]
  congr 1
  rw [List.filter_cons]
  split <;> rfl
theorem hadR_len (L : List Sp) (J : Jc) (i : Nat) : (hadR (L.take i) J).length ≤ i := by
  unfold hadR
  rw [List.length_map]
  have := List.length_filter_le (fun p : Sp => p.js.any fun y => y.same J) (L.take i)
  rw [List.length_take] at this
  omega

theorem RWi.js {L Lc : List Sp} {J : Jc} {i : Nat} (h : RWi L Lc J i) {p : Sp} (hp : p ∈ Lc) {j : Jc} (hj : j ∈ p.js) : ∃ p0 ∈ L, j ∈ p0.js := by
  obtain ⟨k, hk, rfl⟩ := List.getElem_of_mem hp
  have hk' : k < L.length := by rw [← h.len]; exact hk
  refine ⟨L[k], List.getElem_mem hk', ?_⟩
  rcases Nat.lt_or_ge k i with q | q
  · rw [(h.new k hk' hk q).2.2] at hj
    exact (List.mem_filter.1 hj).1
  · rw [h.old k hk' hk q] at hj
    exact hj
/-- A row of integers of one's own has grown. -/
theorem RefB.grown {B r n : Nat} {W0 wr X : World} {v v0 vo : Value} {L Lc : List Sp} {xs : List Value} {lit : Obj} (h : RefB B wr r v Lc) (h0 : RefB B W0 r v0 L) (hsub : ∀ p ∈ Lc, ∀ j ∈ p.js, ∃ p0 ∈ L, j ∈ p0.js) (hrow : wr.ownsRow W0.heap.size 3 1 vo n xs) (hg : (wr.alloc lit).grownBy X vo.ownBlock) : RefB B X r v Lc := by
  have hrl := lt_of_heap h0.blk
  have hk : ∀ {t : TypeId} {s n : Nat} {u : Value} {ys : List Value}, t ≠ 3 → wr.ownsRow B t s u n ys → X.ownsRow B t s u n ys := fun ht hr => (hr.alloc _).kept hg (by
    cases e : Value.ownBlock _ with
    | none => exact .inl rfl
    | some k => exact .inr fun q => owns_ne ht hr hrow e q.symm)
  have hk2 : ∀ {s n m : Nat} {u : Value} {ys zs : List Value}, wr.ownsRow B 3 s u n ys → W0.ownsRow B 3 s u m zs → X.ownsRow B 3 s u n ys := fun hr hr0 => (hr.alloc _).kept hg (by
    cases e : Value.ownBlock _ with
    | none => exact .inl rfl
    | some k =>
      refine .inr fun q => ?_
      have h1 := (hr0.lt k e).2
      have h2 := row_own hrow k q.symm
      omega)
  have hX : r < wr.heap.size := lt_of_heap h.blk
  refine ⟨(hg.block r (by simp only [World.size_alloc]; omega) (fun e => ?_)).trans ((MapKept.heap_alloc wr lit).2 r hX ▸ h.blk), h.hB, hk (by decide) h.row, fun p hp => ⟨(h.js p hp).1, hk (by decide) (h.js p hp).2.own, fun j hj => ?_⟩, h.len, h.asc⟩
  · have := row_own hrow r e.symm
    omega
  · obtain ⟨p0, hp0, hj0⟩ := hsub p hp j hj
    exact ⟨((h.js p hp).2.tups j hj).1, hk2 ((h.js p hp).2.tups j hj).2 ((h0.js p0 hp0).2.tups j hj0).2⟩
theorem ROnly.then {B r : Nat} {a b c : World} (h : ROnly B r a b) (k : Below a.heap.size b c) : ROnly B r a c :=
  ⟨k.os.trans h.os, k.tape.trans h.tape, k.output.trans h.output, Nat.le_trans h.size k.size, fun i hi hr ht => (k.block i hi).trans (h.block i hi hr ht), fun p z hp => (k.cell (p := p) (lt_of_cell hp)).trans (h.ints p z hp),
    fun b o z x n c h1 h2 => (k.cell (p := ⟨b, o + 1, none⟩) (lt_of_cell h2)).trans (h.pairs b o z x n c h1 h2)⟩

/-- Where Withdraw stands, behind i facts. -/
structure RWst (B r : Nat) (v : Value) (L : List Sp) (J : Jc) (W0 wr : World) (i : Nat) (vo : Value) (on : Nat) : Prop where
  book : ∃ Lc, RefB B wr r v Lc ∧ RWi L Lc J i ∧ ∀ A : Nat → Prop, (∀ k, W0.heap.size ≤ k → A k) → AvB A L → AvB A Lc
  cnt : (hadR (L.take i) J).length = on
  row : wr.ownsRow W0.heap.size 3 1 vo on ((hadR (L.take i) J).map (.int .i64))
  only : ROnly B r W0 wr

set_option maxRecDepth 100000 in
set_option maxHeartbeats 16000000 in
theorem rwithdraw_any (B r : Nat) (v : Value) (L : List Sp) (J : Jc) (w : World) (h : RefB B w r v L) (hj : NIs w J.x J.tup) :
    Calls Try.prog 72 #[.pointer (some ⟨r, 0, none⟩), J.val] w fun e w' => ∃ vo, e = .returned vo ∧ w'.ownsRow w.heap.size 3 1 vo (hadR L J).length ((hadR L J).map (.int .i64)) ∧
      (∃ L', RefB B w' r v L' ∧ RWd L L' J ∧ ∀ A : Nat → Prop, (∀ k, w.heap.size ≤ k → A k) → AvB A L → AvB A L') ∧ ROnly B r w w' := by
  have hB := h.hB
  have hrlt := lt_of_heap h.blk
  have hasc := h.asc
  have hlen := h.len
  obtain ⟨jr, jt, jx⟩ := J
  simp only at hj
  obtain ⟨ja, jc, rfl⟩ := hj.form
  have hjlen := hj.1
  obtain ⟨J, hJ⟩ : ∃ J : Jc, J = ⟨jr, jt, .slice ja jt.length jc⟩ := ⟨_, rfl⟩
  have hJv : (⟨jr, jt, .slice ja jt.length jc⟩ : Jc).val = .agg #[.int .i64 jr, .slice ja jt.length jc] := rfl
  rw [hJv, ← hJ]
  obtain ⟨W0, hW0⟩ : ∃ W0, w.alloc (Obj.cells #[.int .i64 jr, .slice ja jt.length jc] 53) = W0 := ⟨_, rfl⟩
  have hb0 : Below w.heap.size w W0 := by rw [← hW0]; exact ((Only.refl [] w).alloc _).below
  have hx0 := heap_alloc0 w (Obj.cells #[.int .i64 jr, .slice ja jt.length jc] 53)
  have hz0 : W0.heap.size = w.heap.size + 1 := by rw [← hW0]; simp
  rw [hW0] at hx0
  have Hj := hide (hj.below hb0)
  have Hbox : Hid (∀ V, ROnly B r W0 V → V.cell? ⟨w.heap.size, 0, none⟩ = some (.int .i64 jr) ∧ V.cell? ⟨w.heap.size, 1, none⟩ = some (.slice ja jt.length jc)) := hide fun V hV => by
    obtain ⟨x0, x1, _⟩ := cells2e ((hV.block w.heap.size (by omega) (by omega) (.inr fun cs fr q => by rw [hx0] at q; cases q)).trans hx0)
    exact ⟨x0, x1⟩
  have HR0 := hide (h.below hb0)
  have HSt : Hid (RWst B r v L J W0 W0 0 (.slice none 0 0) 0) := hide ⟨⟨L, h.below hb0, RWi.zero L J, fun _ _ h => h⟩, by simp [hadR], by simpa [hadR] using World.ownsRow_nil _ _ _ _, ROnly.refl _ _ _⟩
  have HW0 := hide hW0
  have Hb0 := hide hb0
  have HJe := hide hJ
  have Hasc := hide hasc
  have hw0 : w.heap.size < W0.heap.size := by omega
  have hrw : r < W0.heap.size := by omega
  obtain ⟨va, vc, rfl⟩ := h.form
  have c0 := (cells1b (h.below hb0).blk).1
  obtain ⟨i1, hi1, hu0, hu1, hu2⟩ := int_parts
  have Hi1 := hide hi1
  have Hu0 := hide hu0
  have Hu1 := hide hu1
  have Hu2 := hide hu2
  obtain ⟨i0, hi0, hy0, hy1, hy2⟩ := jinfo_parts
  have Hi0 := hide hi0
  have Hy0 := hide hy0
  have Hy1 := hide hy1
  have Hy2 := hide hy2
  clear h hj hb0 hx0 hz0 hW0 hJ hJv hasc hi1 hu0 hu1 hu2 hi0 hy0 hy1 hy2
  go_enter Try.func72, Try.ntmps72
  go_upto_region 1 with fail
  rw [HW0.out]
  go_wp2
  go_loopw [5, 6] (fun vo vi wr => ∃ (i : Nat) (oa : Option Addr) (on oc : Nat), i ≤ L.length ∧ vi = .int .i64 i ∧ vo = .slice oa on oc ∧ Hid (RWst B r (.slice va L.length vc) L J W0 wr i (.slice oa on oc) on)) (fun _ vi _ => L.length - (intOf vi).toNat)
  case atStart => exact ⟨0, none, 0, 0, Nat.zero_le _, rfl, rfl, HSt.out⟩
  case round =>
    obtain ⟨i, oa, on, oc, hi, rfl, rfl, hrel⟩ := hrel
    obtain ⟨⟨Lc, hR, hwi, hav⟩, hcnt, hrow, honly⟩ := hrel.out
    clear c0
    have c0 := (cells1b hR.blk).1
    obtain ⟨wo, rfl⟩ : ∃ wo : World, wo = wr := ⟨_, rfl⟩
    by_cases hli : i < L.length
    · have hlc : i < Lc.length := by rw [hwi.len]; exact hli
      have hon : on ≤ i := by have := hadR_len L J i; omega
      obtain ⟨g, c, e, d0, _, d2⟩ := hR.at hlc
      rw [hwi.len] at e
      injection e with e1 e2 e3
      subst e1 e3
      clear e2
      have hjs := hR.js _ (List.getElem_mem hlc)
      have hRl : RefB B wo r (.slice (some ⟨g, 0, none⟩) Lc.length vc) Lc := by rw [hwi.len]; exact hR
      obtain ⟨cs, hgb⟩ := hRl.blkrow
      have hstep := fun (q : Sp) h1 h2 h3 => hwi.step hli (q := q) h1 h2 h3
      have hsn := hadR_snoc L J hli
      have hpe := hwi.old i hli hlc (Nat.le_refl _)
      have HRl := hide hRl
      have Hpe := hide hpe
      have hsub := fun p hp j hj => hwi.js (p := p) hp (j := j) hj
      have Hsub := hide hsub
      have hlcn := hwi.len
      have hbxx := Hbox.out wo honly
      have hjw := Hj.out.ronly honly
      rw [hpe] at d0 d2 hjs
      have havp : ∀ A : Nat → Prop, (∀ k, W0.heap.size ≤ k → A k) → AvB A L → AvB A Lc ∧ AvS A L[i] := fun A hA hL => ⟨hav A hA hL, hL _ (List.getElem_mem hli)⟩
      obtain ⟨p, hp⟩ : ∃ p, L[i] = p := ⟨_, rfl⟩
      rw [hp] at d0 d2 hjs hsn Hpe
      simp only [hp] at hstep havp
      obtain ⟨pid, pp, js, pv⟩ := p
      simp only at d0 d2 hjs hsn hstep
      obtain ⟨pa, pc, rfl⟩ := hjs.2.form
      have hflt := filt_lt J js
      have Hcell : Hid (∀ V, Below wo.heap.size wo V → V.cell? ⟨r, 0, none⟩ = some (.slice (some ⟨g, 0, none⟩) L.length vc) ∧ V.cell? ⟨g, i * 3, none⟩ = some (.int .i64 pid) ∧ V.cell? ⟨g, i * 3 + 2, none⟩ = some (.slice pa js.length pc) ∧ V.cell? ⟨w.heap.size, 0, none⟩ = some (.int .i64 jr) ∧ V.cell? ⟨w.heap.size, 1, none⟩ = some (.slice ja jt.length jc) ∧ V.frozen? ⟨g, i * 3 + 2, none⟩ = false) := hide fun V hV => by
        refine ⟨(hV.cell (lt_of_cell c0)).trans c0, (hV.cell (lt_of_cell d0)).trans d0, (hV.cell (lt_of_cell d2)).trans d2, (hV.cell (lt_of_cell hbxx.1)).trans hbxx.1, (hV.cell (lt_of_cell hbxx.2)).trans hbxx.2, ?_⟩
        simp [World.frozen?, (hV.block g (lt_of_heap hgb)).trans hgb]
      have Hjs := hide hjs
      have Hstep := hide hstep
      have Hsn := hide hsn
      have Hjw := hide hjw
      have Havp := hide havp
      have Hcnt := hide hcnt
      have Hrow := hide hrow
      have Honly := hide honly
      have Hflt := hide hflt
      have hzo : W0.heap.size ≤ wo.heap.size := honly.size
      have hjl := hjs.1
      clear hrel hR hRl hwi hav hcnt hrow honly hjs hstep hsn hpe hbxx hjw hp havp hflt hgb d0 d2 c0
      obtain ⟨c0, d0, d2, x0, x1, df⟩ := Hcell.out wo (Below.refl _ _)
      go_wp2_with fail
      go_loopw [7, 8] (fun vl vk wi => ∃ (q : Nat) (la : Option Addr) (lc : Nat) (fl : List Jc), q ≤ js.length ∧ vk = .int .i64 q ∧ vl = .slice la fl.length lc ∧ fl.length ≤ q ∧ Hid (fl = (js.take q).filter (fun y => !y.same J) ∧ wi.ownsRow wo.heap.size 53 2 (.slice la fl.length lc) fl.length (jflat fl) ∧ Below wo.heap.size wo wi)) (fun _ vk _ => js.length - (intOf vk).toNat)
      case atStart => exact ⟨0, none, 0, [], Nat.zero_le _, rfl, rfl, Nat.le_refl _, by simp, World.ownsRow_nil _ _ _ _, Below.refl _ _⟩
      case round =>
        obtain ⟨q, la, lc, fl, hq, rfl, rfl, hfq, hrel⟩ := hrel
        obtain ⟨hfl, hfrow, hbi⟩ := hrel.out
        clear c0 d0 d2 x0 x1 df
        obtain ⟨c0, d0, d2, x0, x1, df⟩ := Hcell.out wr hbi
        by_cases hlq : q < js.length
        · have hJ := ((Hjs.out.2.below hbi).js (by omega))
          obtain ⟨bb, off, cap, xa, xc, e, hx, e0, e1⟩ := hJ.at hlq
          injection e with f1 f2 f3
          subst f1 f3
          clear f2
          have hn := hJ.tups _ (List.getElem_mem hlq)
          have htk : (js.take (q + 1)).filter (fun y => !y.same J) = fl ++ (if js[q].same J then [] else [js[q]]) := by
            rw [List.take_succ_eq_append_getElem hlq, List.filter_append, ← hfl]
            congr 1
            rw [List.filter_cons]
            cases js[q].same J <;> rfl
          obtain ⟨Z, hz⟩ : ∃ Z, js[q] = Z := ⟨_, rfl⟩
          rw [hz] at hx e0 e1 hn htk
          obtain ⟨zr, zt, zx⟩ := Z
          simp only at hx e0 e1 hn
          subst hx
          have hzl := hn.1
          have hbd : Below wr.heap.size wr wr.drew := (Only.drew (Only.refl [] wr)).below
          have hs := rsame29_any ⟨zr, zt, .slice xa zt.length xc⟩ ⟨jr, jt, .slice ja jt.length jc⟩ wr.drew (hn.below hbd) ((Hjw.out.below hbi).below hbd)
          unfold Jc.val at hs
          simp only at hs
          have hsame : (⟨zr, zt, .slice xa zt.length xc⟩ : Jc).same J = decide (zr = jr ∧ zt = jt) := by rw [HJe.out]; rfl
          obtain ⟨sm, hsm⟩ : ∃ sm, decide (zr = jr ∧ zt = jt) = sm := ⟨_, rfl⟩
          rw [hsm] at hsame hs
          rw [hsame] at htk
          have Hs := hide hs
          have Htk := hide htk
          have Hbi := hide hbi
          have Hfrow := hide hfrow
          have He : Hid (∀ V, Below wr.heap.size wr V → V.cell? ⟨bb, off + q * 2, none⟩ = some (.int .i64 zr) ∧ V.cell? ⟨bb, off + q * 2 + 1, none⟩ = some (.slice xa zt.length xc)) := hide fun V hV => ⟨(hV.cell (lt_of_cell e0)).trans e0, (hV.cell (lt_of_cell e1)).trans e1⟩
          clear hrel hfl hfrow hbi hJ hn htk hz hbd hs hsame hsm
          go_wp2_with fail
          go_region_held3 (fun V => V.cell? ⟨r, 0, none⟩ = some (.slice (some ⟨g, 0, none⟩) L.length vc) ∧ V.cell? ⟨g, i * 3 + 2, none⟩ = some (.slice (some ⟨bb, off, none⟩) js.length pc) ∧ V.cell? ⟨bb, off + q * 2, none⟩ = some (.int .i64 zr) ∧ V.cell? ⟨bb, off + q * 2 + 1, none⟩ = some (.slice xa zt.length xc) ∧ V.cell? ⟨w.heap.size, 0, none⟩ = some (.int .i64 jr) ∧ V.cell? ⟨w.heap.size, 1, none⟩ = some (.slice ja jt.length jc)) (go_keep)
            ((go_at_call 69; have hqq := Hs.out; (with_reducible refine Calls.mono hqq ?_); clear hqq; rintro e V ⟨rfl, hbV0⟩; have HbV := hide (below_undrew hbV0); obtain ⟨u0, u1⟩ := He.out V HbV.out; have HbW := hide (Hbi.out.trans (HbV.out.mono Hbi.out.size)); obtain ⟨y0, _, y2, y3, y4, _⟩ := Hcell.out V HbW.out; clear hbV0))
          clear c0 d0 d2 x0 x1 df e0 e1 u0 u1 y0 y2 y3 y4
          obtain ⟨c0, d0, d2, x0, x1, df⟩ := Hcell.out V HbW.out
          obtain ⟨e0, e1⟩ := He.out V HbV.out
          have hVz : wr.heap.size ≤ V.heap.size := HbV.out.size
          have hVzo : wo.heap.size ≤ V.heap.size := HbW.out.size
          have hro := owns_below Hfrow.out HbV.out
          have Hro := hide hro
          clear hro Hs Hfrow
          cases sm
          · -- kept
            have Hfin := Htk.out
            simp only [Bool.false_eq_true, if_false] at Hfin
            have HFin := hide Hfin
            clear Hfin
            go_wp2_with (at_builtin; refine wpList_append_own _ rfl (.tmp 45) (.tmp 57) _ rfl wo.heap.size 53 i0 (.agg #[.int .i64 0, .slice none 0 0]) 2 32 Try.underlying60 Hi0.out Hy0.out Hy1.out Hy2.out rfl (by decide) (.slice la fl.length lc) fl.length (jflat fl) rfl (Hro.out.alloc _) ⟨V.heap.size, 0, none⟩ 1 1 [.int .i64 zr, .slice xa zt.length xc] rfl rfl (lit2_news (heap_alloc0 V _)) (by simp [Value.oneCell']) (by unfold maxLen; omega) (by omega) (by simp only [World.size_alloc]; omega) ?_; intro v3 X ho3 hg3 _; obtain ⟨na, nc, rfl⟩ := row_form ho3; have HX : Hid (Below wo.heap.size wo X) := hide ((HbW.out.alloc hVzo _).grown hg3 (by simp only [World.size_alloc]; omega) (fun k e => row_own Hro.out k e)); have Ho3 := hide ho3; clear ho3 hg3)
            go_roundw
            case rel => exact ⟨q + 1, na, nc, fl ++ [⟨zr, zt, .slice xa zt.length xc⟩], by omega, by go_num, by simp, by simp; omega, HFin.out.symm, by simpa [jflat_append, jflat] using Ho3.out, HX.out⟩
            case measure => simp [intOf]; omega
          · have Hfin := Htk.out
            simp only [if_true, List.append_nil] at Hfin
            have HFin := hide Hfin
            clear Hfin
            go_wp2
            go_roundw
            case rel => exact ⟨q + 1, la, lc, fl, by omega, by go_num, rfl, by omega, HFin.out.symm, Hro.out, HbW.out⟩
            case measure => simp [intOf]; omega
        · obtain rfl : q = js.length := by omega
          rw [List.take_length] at hfl
          have hfm : ∀ j ∈ fl, j ∈ js := fun j hj => by rw [hfl] at hj; exact (List.mem_filter.1 hj).1
          rw [← hfl] at Hflt
          have hlt := Hflt.out
          have Hro := hide hfrow
          have HbW := hide hbi
          have Hfl := hide hfl
          have Hfm := hide hfm
          have hzi : wo.heap.size ≤ wr.heap.size := hbi.size
          clear hrel hfl hfrow hbi hfm
          have Hout := hide (owns_below Hrow.out HbW.out)
          have Hend : Hid (∀ (X : World) (oa' : Option Addr) (on' oc' : Nat), RefB B X r (.slice (some ⟨g, 0, none⟩) Lc.length vc) Lc → X.ownsRow wo.heap.size 53 2 (.slice la fl.length lc) fl.length (jflat fl) → ROnly B r W0 X → on' = (hadR (L.take (i + 1)) J).length →
              X.ownsRow W0.heap.size 3 1 (.slice oa' on' oc') on' ((hadR (L.take (i + 1)) J).map (.int .i64)) → RWst B r (.slice (some ⟨g, 0, none⟩) L.length vc) L J W0 (X.setCell ⟨g, i * 3 + 2, none⟩ (.slice la fl.length lc)) (i + 1) (.slice oa' on' oc') on') := hide fun X oa' on' oc' h0 h1 h2 h3 h4 => by
            have hjx := h0.js _ (List.getElem_mem hlc)
            rw [Hpe.out] at hjx
            obtain ⟨s1, s2⟩ := h0.setJs hlc (js := fl) (v := .slice la fl.length lc) ⟨by omega, owns_base h1 (by omega), fun j hj => hjx.2.tups j (Hfm.out j hj)⟩
            rw [Hpe.out] at s1
            rw [hlcn] at s1
            obtain ⟨cs', hgx⟩ := h0.blkrow
            refine ⟨⟨_, s1, Hstep.out ⟨pid, pp, fl, .slice la fl.length lc⟩ rfl rfl Hfl.out, fun A hA hL => ?_⟩, h3.symm, owns_only h4 ((Only.refl [g] X).setCell (.inl (by simp)) _) (fun k hk hm => ?_), h2.trans s2⟩
            · obtain ⟨a1, a2⟩ := Havp.out A hA hL
              intro x hx
              rcases List.mem_or_eq_of_mem_set hx with hx | rfl
              · exact a1 x hx
              · exact ⟨AvV.own h1 (fun k hk => hA k (by omega)), fun j hj => a2.2 j (Hfm.out j hj)⟩
            · simp only [List.mem_singleton] at hm
              subst hm
              exact owns_not h4 hgx (by decide) hk
          have hRr : RefB B wr r (.slice (some ⟨g, 0, none⟩) Lc.length vc) Lc := HRl.out.below HbW.out
          have Hgrow : Hid (∀ (X : World) (lit : Obj), (wr.alloc lit).grownBy X (Value.ownBlock (.slice oa on oc)) → RefB B X r (.slice (some ⟨g, 0, none⟩) Lc.length vc) Lc) := hide fun X lit hg => RefB.grown hRr HR0.out Hsub.out Hout.out hg
          have HRr := hide hRr
          have HOr := hide (Honly.out.trans (ROnly.of_below HbW.out))
          have Hsn' := Hsn
          clear hRr
          by_cases hany : (js.any fun y => y.same J) = true
          · have hless := hlt.2 hany
            have hlti : ((fl.length : Int) < (js.length : Int)) := by omega
            have hsn2 := Hsn.out
            rw [if_pos hany] at hsn2
            have Hsn2 := hide hsn2
            clear hany hlt hsn2 Hsn Hsn'
            go_wp2_with (at_builtin; refine wpList_append_own _ rfl (.tmp 71) (.tmp 80) _ rfl W0.heap.size 3 i1 (.int .i64 0) 1 8 Try.underlying36 Hi1.out Hu0.out Hu1.out Hu2.out rfl (by decide) (.slice oa on oc) on _ rfl (Hout.out.alloc _) ⟨wr.heap.size, 0, none⟩ 1 1 [.int .i64 pid] rfl rfl (World.news_of_block (cs := #[.int .i64 pid]) (heap_alloc_new wr _)) (by simp [Value.oneCell']) (by unfold maxLen; omega) (by omega) (by simp only [World.size_alloc]; omega) ?_; intro v3 X ho3 hg3 _; obtain ⟨na, nc, rfl⟩ := row_form ho3; have HX : Hid (Below W0.heap.size wr X) := hide (((Below.refl W0.heap.size wr).alloc (by omega) _).grown hg3 (by simp only [World.size_alloc]; omega) (fun k e => row_own Hout.out k e)); have Ho3 := hide ho3; have HRX := hide (Hgrow.out X _ hg3); have HlX : Hid (X.ownsRow wo.heap.size 53 2 (.slice la fl.length lc) fl.length (jflat fl)) := hide ((Hro.out.alloc _).kept hg3 (by cases e : Value.ownBlock (.slice la fl.length lc) with | none => exact .inl rfl | some k => exact .inr fun q => owns_ne (by decide) Hro.out Hout.out e q.symm)); have c1 := (cells1b HRX.out.blk).1; obtain ⟨cs1, hgx1⟩ := HRX.out.blkrow; obtain ⟨_, _, eX, _, _, d21⟩ := HRX.out.at hlc; rw [Hpe.out] at d21; injection eX with eX1 _ _; cases eX1; rw [hlcn] at c1; have df1 : X.frozen? ⟨g, i * 3 + 2, none⟩ = false := (by simp [World.frozen?, hgx1]); clear ho3 hg3 hgx1)
            have hcn : on + 1 = (hadR (L.take (i + 1)) J).length := by rw [Hsn2.out, List.length_append, Hcnt.out]; rfl
            have HF := hide (Hend.out X na (on + 1) nc HRX.out HlX.out ((HOr.out).then (HX.out)) hcn (by rw [Hsn2.out, List.map_append]; exact Ho3.out))
            clear hcn
            go_wp2
            go_roundw
            case rel => exact ⟨i + 1, na, on + 1, nc, by omega, by go_num, rfl, HF.out⟩
            case measure => simp [intOf]; omega
          · have hnl : ¬ fl.length < js.length := fun q => hany (hlt.1 q)
            have hnli : ¬ ((fl.length : Int) < (js.length : Int)) := by omega
            have hsn2 := Hsn.out
            rw [if_neg hany, List.append_nil] at hsn2
            have HF := hide (Hend.out wr oa on oc HRr.out Hro.out HOr.out (by rw [hsn2, Hcnt.out]) (by rw [hsn2]; exact Hout.out))
            clear hany hlt hsn2 Hsn Hsn'
            go_wp2
            go_roundw
            case rel => exact ⟨i + 1, oa, on, oc, by omega, by go_num, rfl, HF.out⟩
            case measure => simp [intOf]; omega
    · obtain rfl : i = L.length := by omega
      rw [List.take_length] at hcnt hrow
      have HF := hide (And.intro (show wo.ownsRow w.heap.size 3 1 (.slice oa on oc) (hadR L J).length ((hadR L J).map (.int .i64)) by rw [hcnt]; exact owns_base hrow (Nat.le_of_lt hw0)) (And.intro (show ∃ L', RefB B wo r (.slice va L.length vc) L' ∧ RWd L L' J ∧ ∀ A : Nat → Prop, (∀ k, w.heap.size ≤ k → A k) → AvB A L → AvB A L' from ⟨Lc, hR, hwi.done Hasc.out, fun A hA hL => hav A (fun k hk => hA k (by omega)) hL⟩) ((ROnly.of_below Hb0.out).trans honly)))
      clear hrel hR hwi hav hcnt hrow honly
      go_wp2
      go_ret
      exact ⟨_, rfl, HF.out.1, HF.out.2.1, HF.out.2.2⟩
end Go.Proofs.Ytmcajoccfbebiaa
