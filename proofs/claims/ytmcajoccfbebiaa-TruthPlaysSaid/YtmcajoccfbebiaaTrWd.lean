/- Withdraw: the plain law. -/
import Derived.Test.YtmcajoccfbebiaaTrHeld
namespace Go.Proofs.Ytmcajoccfbebiaa
open Go Go.RowKit Go.MapKept Go.Sort

def wfilt (J : Jc) (cs : List (Int × List Int)) : List (Int × List Int) := cs.filter fun c => !decide (c = J.co)
theorem same_co (j J : Jc) : j.same J = decide (j.co = J.co) := by
  rw [Bool.eq_iff_iff]
  simp [Jc.same, Jc.co]
theorem filt_co (J : Jc) (js : List Jc) : (js.filter fun x => !x.same J).map Jc.co = wfilt J (js.map Jc.co) := by
  unfold wfilt
  rw [List.filter_map]
  congr 1
  exact List.filter_congr fun x _ => by rw [same_co]; rfl
theorem any_co {js js' : List Jc} (J : Jc) (h : js.map Jc.co = js'.map Jc.co) : (js.any fun x => x.same J) = js'.any fun x => x.same J := by
  rw [Bool.eq_iff_iff, any_same, any_same, h]
theorem filt_lt (J : Jc) (js : List Jc) : ((js.filter fun x => !x.same J).length < js.length) ↔ (js.any fun x => x.same J) = true := by
  induction js with
  | nil => simp
  | cons x js ih =>
    have hle := List.length_filter_le (fun x : Jc => !x.same J) js
    rw [List.filter_cons, List.any_cons]
    cases h : x.same J with
    | true => simp; omega
    | false => simp [ih]

theorem put_ids_mem {M : List Sp} {q : Sp} (h : q.id ∈ M.map Sp.id) : (putS M q).map Sp.id = M.map Sp.id := by
  induction M with
  | nil => cases h
  | cons r M ih =>
    unfold putS
    split
    · rename_i e
      simp [e]
    · rename_i e
      rw [List.map_cons, List.map_cons, ih]
      rw [List.map_cons] at h
      rcases List.mem_cons.1 h with h | h
      · exact absurd h.symm e
      · exact h

/-- From the facts of S the justification is withdrawn. -/
structure Wdp (M M' : List Sp) (J : Jc) (S : Int → Bool) : Prop where
  ids : M'.map Sp.id = M.map Sp.id
  plain : ∀ x, (getD M' x).plain = (getD M x).plain
  co : ∀ x, (getD M' x).js.map Jc.co = if S x then wfilt J ((getD M x).js.map Jc.co) else (getD M x).js.map Jc.co
theorem Wdp.refl (M : List Sp) (J : Jc) : Wdp M M J (fun _ => false) := ⟨rfl, fun _ => rfl, fun _ => rfl⟩
theorem Wdp.congr {M M' : List Sp} {J : Jc} {S T : Int → Bool} (h : Wdp M M' J S) (e : ∀ x, S x = T x) : Wdp M M' J T := by
  have : S = T := funext e
  rwa [← this]
theorem Wdp.step {M M' : List Sp} {J : Jc} {S : Int → Bool} {q : Sp} (h : Wdp M M' J S) (hz : q.id ∈ M.map Sp.id) (hS : S q.id = false) (hp : q.plain = (getD M' q.id).plain) (hc : q.js.map Jc.co = wfilt J ((getD M' q.id).js.map Jc.co)) : Wdp M (putS M' q) J (fun x => S x || q.id == x) := by
  refine ⟨(put_ids_mem (by rw [h.ids]; exact hz)).trans h.ids, fun x => ?_, fun x => ?_⟩
  · rw [getD_put]
    split
    · rename_i e
      rw [hp, h.plain, e]
    · exact h.plain x
  · rw [getD_put]
    by_cases e : q.id = x
    · subst e
      have := h.co q.id
      rw [hS] at this
      simp only [Bool.false_eq_true, if_false] at this
      simp only [if_true, beq_self_eq_true, Bool.or_true, hc, this]
    · have e2 : (q.id == x) = false := by simpa using e
      rw [if_neg e, e2, Bool.or_false]
      exact h.co x
theorem Wdp.full {M M' : List Sp} {J : Jc} (h : Wdp M M' J (fun x => (idsS M).any fun y => y == x)) : Wdp M M' J (fun _ => true) := by
  refine ⟨h.ids, h.plain, fun x => ?_⟩
  rw [h.co x]
  by_cases hx : (getD M x).js = []
  · rw [hx]
    simp [wfilt]
  · have hm : x ∈ idsS M := mem_ids.2 (getD_mem (.inr hx))
    have : ((idsS M).any fun y => y == x) = true := List.any_eq_true.2 ⟨x, hm, by simp⟩
    rw [this]
theorem Wdp.len {M M' : List Sp} {J : Jc} {S : Int → Bool} (h : Wdp M M' J S) (x : Int) : (getD M' x).js.length ≤ (getD M x).js.length := by
  have := congrArg List.length (h.co x)
  rw [List.length_map] at this
  rw [this]
  split
  · unfold wfilt
    refine Nat.le_trans (List.length_filter_le _ _) (by simp)
  · simp
theorem ids_nodup {M : List Sp} (h : (M.map Sp.id).Nodup) : (idsS M).Nodup := (rise_perm _).nodup_iff.2 h

/-- The book, while Withdraw goes on: each fact's justifications lie as they lay ahead, or in a row of Withdraw's own. -/
structure WdB (w wr : World) (b m B : Nat) (M : List Sp) : Prop where
  book : BookIs wr b m M
  safe : ∀ p ∈ M, (∀ j ∈ p.js, NIs w j.x j.tup) ∧ (JsIs w p.v p.js ∨ (p.js.length ≤ 1000000 ∧ wr.ownsRow B 53 2 p.v p.js.length (jflat p.js)))
theorem WdB.js {w X : World} {B : Nat} {p : Sp} (h : (∀ j ∈ p.js, NIs w j.x j.tup) ∧ (JsIs w p.v p.js ∨ (p.js.length ≤ 1000000 ∧ X.ownsRow B 53 2 p.v p.js.length (jflat p.js)))) (hk : KeepsCells w X) : JsIs X p.v p.js := by
  rcases h.2 with q | ⟨hl, q⟩
  · exact q.keeps hk
  · exact JsIs.of_row hl q fun j hj => (h.1 j hj).keeps hk
theorem WdB.move {w wr X : World} {b m B : Nat} {M : List Sp} (h : WdB w wr b m B M) (hk : KeepsCells w X) (hb : X.heap[b]? = wr.heap[b]?) (hm : X.heap[m]? = wr.heap[m]?)
    (hr : ∀ v n xs, wr.ownsRow B 53 2 v n xs → X.ownsRow B 53 2 v n xs) : WdB w X b m B M := by
  have hs : ∀ p ∈ M, (∀ j ∈ p.js, NIs w j.x j.tup) ∧ (JsIs w p.v p.js ∨ (p.js.length ≤ 1000000 ∧ X.ownsRow B 53 2 p.v p.js.length (jflat p.js))) := fun p hp => by
    obtain ⟨h1, h2⟩ := h.safe p hp
    refine ⟨h1, h2.imp id fun q => ⟨q.1, hr _ _ _ q.2⟩⟩
  obtain ⟨es, c, g1, g2, g3⟩ := h.book.map
  exact ⟨⟨hb.trans h.book.blk, ⟨es, c, hm.trans g1, g2, g3⟩, fun p hp => WdB.js (hs p hp) hk, h.book.wf, h.book.len⟩, hs⟩
theorem WdB.tups {w wr : World} {b m B : Nat} {M : List Sp} (h : WdB w wr b m B M) (z : Int) : ∀ j ∈ (getD M z).js, NIs w j.x j.tup := by
  unfold getD getS
  cases e : M.find? fun p => p.id == z with
  | none => simp
  | some p => exact (h.safe p (List.mem_of_find?_eq_some e)).1

/-- Where Withdraw stands, behind k ids. -/
structure WdSt (w V0 wr : World) (b m B : Nat) (M : List Sp) (J : Jc) (k n : Nat) (vo : Value) : Prop where
  book : ∃ M', WdB w wr b m B M' ∧ Wdp M M' J (fun x => ((idsS M).take k).any fun y => y == x)
  cnt : (((idsS M).take k).filter fun x => (getD M x).js.any fun y => y.same J).length = n
  row : wr.ownsRow B 3 1 vo n ((((idsS M).take k).filter fun x => (getD M x).js.any fun y => y.same J).map (.int .i64))
  only : Only [m] w wr
  keep : KeepsCells V0 wr
  size : V0.heap.size ≤ wr.heap.size
/-- Behind the store. -/
theorem WdSt.next {w V0 X w1 : World} {b m : Nat} {M M' : List Sp} {J : Jc} {k n : Nat} {vo : Value} {q : Sp} (hB : WdB w X b m V0.heap.size M') (hl : M'.length < 100000) (hwf : (Lit.int .i64 q.id).wf = true) (hm : m < V0.heap.size)
    (hwd : Wdp M (putS M' q) J (fun x => ((idsS M).take (k + 1)).any fun y => y == x)) (hcnt : (((idsS M).take (k + 1)).filter fun x => (getD M x).js.any fun y => y.same J).length = n)
    (hrow : X.ownsRow V0.heap.size 3 1 vo n ((((idsS M).take (k + 1)).filter fun x => (getD M x).js.any fun y => y.same J).map (.int .i64))) (hq : (∀ j ∈ q.js, NIs w j.x j.tup) ∧ q.js.length ≤ 1000000 ∧ X.ownsRow V0.heap.size 53 2 q.v q.js.length (jflat q.js))
    (hsz : V0.heap.size ≤ X.heap.size) (hkw : KeepsCells w V0) (hk : KeepsCells V0 X) (ho : Only [m] w X) (hi : IMap w1 m (put (M'.map Sp.pair) q.id q.val)) (ho1 : Only [m] X.drew w1) : WdSt w V0 w1 b m V0.heap.size M J (k + 1) n vo := by
  have oD : Only [m] X X.drew := Only.of_below (Only.drew (Only.refl [] X)).below _
  have o1 : Only [m] X w1 := oD.trans ho1
  have hne : ∀ {t : TypeId} {s n : Nat} {v : Value} {xs : List Value}, X.ownsRow V0.heap.size t s v n xs → w1.ownsRow V0.heap.size t s v n xs := fun hr => owns_only hr o1 fun k hk hm' => by
    have := (hr.lt k hk).1
    simp only [List.mem_singleton] at hm'
    omega
  have kc1 : KeepsCells X w1 := KeepsCells.map hB.book.map o1
  have hXw : KeepsCells w w1 := (hkw.trans hk).trans kc1
  have hj : JsIs X q.v q.js := JsIs.of_row hq.2.1 hq.2.2 fun j hj => (hq.1 j hj).keeps (hkw.trans hk)
  have hS := (hB.book.below (Only.drew (Only.refl [] X)).below).store hi ho1 (hj.keeps (KeepsCells.below (Only.drew (Only.refl [] X)).below)) hwf hl
  refine ⟨⟨_, ⟨hS, fun p hp => ?_⟩, hwd⟩, hcnt, hne hrow, ho.trans o1, hk.trans kc1, Nat.le_trans hsz o1.size⟩
  rcases mem_putS hp with rfl | hp
  · exact ⟨hq.1, .inr ⟨hq.2.1, hne hq.2.2⟩⟩
  · obtain ⟨h1, h2⟩ := hB.safe p hp
    exact ⟨h1, h2.imp id fun q => ⟨q.1, hne q.2⟩⟩
end Go.Proofs.Ytmcajoccfbebiaa
