/- Two books that say the same: the plain law. -/
import Derived.Test.YtmcajoccfbebiaaRT6
import Derived.Test.YtmcajoccfbebiaaTrMoreL
namespace Go.Proofs.Ytmcajoccfbebiaa
open Go Go.RowKit Go.MapKept Go.Sort

theorem getD_mem_eq {L : List Sp} (h : (L.map Sp.id).Pairwise (· < ·)) {p : Sp} (hp : p ∈ L) : getD L p.id = p := by
  obtain ⟨k, hk, rfl⟩ := List.getElem_of_mem hp
  exact getD_at h hk
/-- The document's facts, one of them laid anew. -/
structure RPut (L L' : List Sp) (q : Sp) : Prop where
  asc : (L'.map Sp.id).Pairwise (· < ·)
  mem : ∀ p, p ∈ L' ↔ p = q ∨ (p ∈ L ∧ p.id ≠ q.id)
  len : L'.length ≤ L.length + 1
theorem RPut.ids {L L' : List Sp} {q : Sp} (h : RPut L L' q) (x : Int) : x ∈ L'.map Sp.id ↔ x ∈ L.map Sp.id ∨ q.id = x := by
  simp only [List.mem_map]
  constructor
  · rintro ⟨p, hp, rfl⟩
    rcases (h.mem p).1 hp with rfl | ⟨hp, _⟩
    · exact .inr rfl
    · exact .inl ⟨p, hp, rfl⟩
  · rintro (⟨p, hp, rfl⟩ | rfl)
    · by_cases e : p.id = q.id
      · exact ⟨q, (h.mem q).2 (.inl rfl), e.symm⟩
      · exact ⟨p, (h.mem p).2 (.inr ⟨hp, e⟩), rfl⟩
    · exact ⟨q, (h.mem q).2 (.inl rfl), rfl⟩
theorem RPut.get {L L' : List Sp} {q : Sp} (hL : (L.map Sp.id).Pairwise (· < ·)) (h : RPut L L' q) (x : Int) : getD L' x = if q.id = x then q else getD L x := by
  split
  · rename_i e
    subst e
    exact getD_mem_eq h.asc ((h.mem q).2 (.inl rfl))
  · rename_i e
    by_cases hx : ∃ p ∈ L, p.id = x
    · obtain ⟨p, hp, rfl⟩ := hx
      rw [getD_mem_eq h.asc ((h.mem p).2 (.inr ⟨hp, fun q => e q.symm⟩)), getD_mem_eq hL hp]
    · rw [getD_none (fun p hp q => hx ⟨p, hp, q⟩), getD_none]
      intro p hp q
      rcases (h.mem p).1 hp with rfl | ⟨hp, _⟩
      · exact e q
      · exact hx ⟨p, hp, q⟩
/-- A fact is laid where one of its id stands. -/
theorem RPut.set {L : List Sp} (h : (L.map Sp.id).Pairwise (· < ·)) {k : Nat} (hk : k < L.length) {q : Sp} (hq : q.id = L[k].id) : RPut L (L.set k q) q := by
  have hp := List.pairwise_iff_getElem.1 h
  simp only [List.length_map, List.getElem_map] at hp
  have e : (L.set k q).map Sp.id = L.map Sp.id := by
    rw [List.map_set]
    refine List.ext_getElem (by simp) fun i h1 h2 => ?_
    rw [List.getElem_set]
    split
    · rename_i q
      subst q
      simpa using hq
    · rfl
  refine ⟨by rw [e]; exact h, fun p => ?_, by simp⟩
  rw [List.mem_iff_getElem]
  constructor
  · rintro ⟨i, hi, rfl⟩
    rw [List.length_set] at hi
    rw [List.getElem_set]
    by_cases e : k = i
    · exact .inl (by rw [if_pos e])
    · rw [if_neg e]
      refine .inr ⟨List.getElem_mem hi, fun e2 => ?_⟩
      rw [hq] at e2
      rcases Nat.lt_or_gt_of_ne e with q | q
      · have := hp k i hk hi q
        omega
      · have := hp i k hi hk q
        omega
  · rintro (rfl | ⟨hm, hne⟩)
    · exact ⟨k, by simpa using hk, by simp⟩
    · obtain ⟨i, hi, rfl⟩ := List.getElem_of_mem hm
      have : k ≠ i := by
        rintro rfl
        exact hne hq.symm
      exact ⟨i, by simpa using hi, by rw [List.getElem_set_ne this]⟩
theorem RPut.ins {L : List Sp} {k : Nat} {q : Sp} (ha : ((insR L k q).map Sp.id).Pairwise (· < ·)) (hno : ∀ p ∈ L, p.id ≠ q.id) : RPut L (insR L k q) q := by
  refine ⟨ha, fun p => ?_, by unfold insR; simp; omega⟩
  unfold insR
  have hm : p ∈ L ↔ p ∈ L.take k ∨ p ∈ L.drop k := by
    rw [← List.mem_append, List.take_append_drop]
  simp only [List.mem_append, List.mem_singleton]
  constructor
  · rintro ((h | h) | h)
    · exact .inr ⟨hm.2 (.inl h), hno p (hm.2 (.inl h))⟩
    · exact .inl h
    · exact .inr ⟨hm.2 (.inr h), hno p (hm.2 (.inr h))⟩
  · rintro (h | ⟨h, _⟩)
    · exact .inl (.inr h)
    · rcases hm.1 h with h | h
      · exact .inl (.inl h)
      · exact .inr h
theorem RPut.then {L L1 L2 : List Sp} {q q' : Sp} (h : RPut L L1 q) (k : RPut L1 L2 q') (e : q.id = q'.id) (hl : L2.length ≤ L1.length) : RPut L L2 q' := by
  refine ⟨k.asc, fun p => ?_, Nat.le_trans hl h.len⟩
  rw [k.mem, h.mem]
  constructor
  · rintro (h | ⟨rfl | ⟨h1, h2⟩, h3⟩)
    · exact .inl h
    · exact absurd e h3
    · exact .inr ⟨h1, h3⟩
  · rintro (h | ⟨h1, h2⟩)
    · exact .inl h
    · exact .inr ⟨.inr ⟨h1, by rw [e]; exact h2⟩, h2⟩
/-- The row that stands, or came, and what is laid there. -/
theorem RPut.row {L L1 : List Sp} {id : Int} {k : Nat} (hL : (L.map Sp.id).Pairwise (· < ·)) (h1 : (L1.map Sp.id).Pairwise (· < ·)) (hk : k < L1.length) (hid : L1[k].id = id) (hor : L1 = L ∨ (L1 = insR L k ⟨id, false, [], .slice none 0 0⟩ ∧ ∀ p ∈ L, p.id ≠ id)) {q : Sp} (hq : q.id = id) :
    RPut L (L1.set k q) q ∧ L1[k] = getD L id := by
  have hs := RPut.set h1 hk (q := q) (by rw [hid, hq])
  rcases hor with rfl | ⟨rfl, hno⟩
  · exact ⟨hs, by rw [← hid]; exact (getD_at hL hk).symm⟩
  · refine ⟨RPut.then (RPut.ins h1 hno) hs (by rw [hq]) (by simp), ?_⟩
    rw [getD_none hno, ← getD_at h1 hk, hid]
    exact getD_mem_eq (p := ⟨id, false, [], .slice none 0 0⟩) h1 (by unfold insR; simp)

/-- The document's book says the same as truth's. -/
structure PRel (M L : List Sp) : Prop where
  nd : (M.map Sp.id).Nodup
  asc : (L.map Sp.id).Pairwise (· < ·)
  ids : ∀ x, x ∈ M.map Sp.id ↔ x ∈ L.map Sp.id
  plain : ∀ x, (getD M x).plain = (getD L x).plain
  js : ∀ x, ((getD M x).js.map Jc.co).Perm ((getD L x).js.map Jc.co)
  sorted : ∀ x, (getD L x).js.Pairwise (fun a b => cmpJ a b ≤ 0)
theorem PRel.nil : PRel [] [] := ⟨by simp, by simp, by simp, fun _ => rfl, fun _ => .refl _, fun _ => by simp [getD, getS]⟩
theorem nodup_asc {l : List Int} (h : l.Pairwise (· < ·)) : l.Nodup := h.imp fun q => by omega
theorem PRel.idsS {M L : List Sp} (h : PRel M L) : idsS M = L.map Sp.id :=
  (rise_unique ((List.perm_ext_iff_of_nodup (nodup_asc h.asc) h.nd).2 fun x => (h.ids x).symm) (h.asc.imp fun q => by omega)).symm
theorem PRel.len {M L : List Sp} (h : PRel M L) : M.length = L.length := by
  have := ((List.perm_ext_iff_of_nodup h.nd (nodup_asc h.asc)).2 h.ids).length_eq
  simpa using this
theorem PRel.jlen {M L : List Sp} (h : PRel M L) (x : Int) : (getD M x).js.length = (getD L x).js.length := by
  have := (h.js x).length_eq
  simpa using this
theorem PRel.held {M L : List Sp} (h : PRel M L) (x : Int) : Held M x ↔ Held L x :=
  ⟨held_congr (fun y hy => by rwa [← h.plain]) (fun y c hc => ⟨c, (h.js y).mem_iff.1 hc, rfl⟩), held_congr (fun y hy => by rwa [h.plain]) (fun y c hc => ⟨c, (h.js y).mem_iff.2 hc, rfl⟩)⟩
theorem PRel.any {M L : List Sp} (h : PRel M L) (x : Int) (J K : Jc) (e : J.co = K.co) : ((getD M x).js.any fun y => y.same J) = (getD L x).js.any fun y => y.same K := by
  rw [Bool.eq_iff_iff, any_same, any_same, e, (h.js x).mem_iff]
theorem PRel.put {M L L' : List Sp} {q q' : Sp} (h : PRel M L) (hp : RPut L L' q') (e : q.id = q'.id) (h1 : q.plain = q'.plain) (h2 : (q.js.map Jc.co).Perm (q'.js.map Jc.co)) (h3 : q'.js.Pairwise (fun a b => cmpJ a b ≤ 0)) : PRel (putS M q) L' := by
  refine ⟨put_nodup q h.nd, hp.asc, fun x => ?_, fun x => ?_, fun x => ?_, fun x => ?_⟩
  · rw [mem_put_ids, hp.ids, h.ids, e]
  · rw [getD_put, hp.get h.asc, e]
    split
    · exact h1
    · exact h.plain x
  · rw [getD_put, hp.get h.asc, e]
    split
    · exact h2
    · exact h.js x
  · rw [hp.get h.asc]
    split
    · exact h3
    · exact h.sorted x
/-- What is withdrawn, from each fact. -/
structure RWd (L L' : List Sp) (J : Jc) : Prop where
  ids : L'.map Sp.id = L.map Sp.id
  plain : ∀ x, (getD L' x).plain = (getD L x).plain
  js : ∀ x, (getD L' x).js = (getD L x).js.filter fun y => !y.same J
theorem PRel.wd {M M' L L' : List Sp} {J K : Jc} (h : PRel M L) (h1 : Wdp M M' J (fun _ => true)) (h2 : RWd L L' K) (e : J.co = K.co) : PRel M' L' := by
  refine ⟨by rw [h1.ids]; exact h.nd, by rw [h2.ids]; exact h.asc, fun x => by rw [h1.ids, h2.ids]; exact h.ids x, fun x => by rw [h1.plain, h2.plain]; exact h.plain x, fun x => ?_, fun x => ?_⟩
  · rw [h1.co, h2.js, filt_co]
    have hw : wfilt J = wfilt K := by unfold wfilt; rw [e]
    rw [hw]
    exact (h.js x).filter _
  · rw [h2.js]
    exact (h.sorted x).sublist List.filter_sublist
structure RDrop (L L' : List Sp) (id : Int) : Prop where
  asc : (L'.map Sp.id).Pairwise (· < ·)
  mem : ∀ p, p ∈ L' ↔ p ∈ L ∧ p.id ≠ id
  len : L'.length ≤ L.length
theorem RDrop.get {L L' : List Sp} {id : Int} (hL : (L.map Sp.id).Pairwise (· < ·)) (h : RDrop L L' id) (x : Int) : getD L' x = if id = x then ⟨x, false, [], .slice none 0 0⟩ else getD L x := by
  split
  · rename_i e
    subst e
    exact getD_none fun p hp => ((h.mem p).1 hp).2
  · rename_i e
    by_cases hx : ∃ p ∈ L, p.id = x
    · obtain ⟨p, hp, rfl⟩ := hx
      rw [getD_mem_eq h.asc ((h.mem p).2 ⟨hp, fun q => e q.symm⟩), getD_mem_eq hL hp]
    · rw [getD_none (fun p hp q => hx ⟨p, hp, q⟩), getD_none]
      intro p hp q
      exact hx ⟨p, ((h.mem p).1 hp).1, q⟩
theorem PRel.drop {M L L' : List Sp} {id : Int} (h : PRel M L) (hd : RDrop L L' id) : PRel (dropS M id) L' := by
  refine ⟨?_, hd.asc, fun x => ?_, fun x => ?_, fun x => ?_, fun x => ?_⟩
  · unfold dropS
    exact h.nd.sublist (List.filter_sublist.map _)
  · have h1 := h.ids x
    simp only [List.mem_map] at h1 ⊢
    constructor
    · rintro ⟨p, hp, rfl⟩
      obtain ⟨hp, hne⟩ := List.mem_filter.1 hp
      obtain ⟨p', hp', e⟩ := h1.1 ⟨p, hp, rfl⟩
      exact ⟨p', (hd.mem p').2 ⟨hp', by rw [e]; simpa using hne⟩, e⟩
    · rintro ⟨p, hp, rfl⟩
      obtain ⟨hp, hne⟩ := (hd.mem p).1 hp
      obtain ⟨p', hp', e⟩ := h1.2 ⟨p, hp, rfl⟩
      exact ⟨p', List.mem_filter.2 ⟨hp', by rw [e]; simpa using hne⟩, e⟩
  · rw [getD_drop, hd.get h.asc]
    split
    · rfl
    · exact h.plain x
  · rw [getD_drop, hd.get h.asc]
    split
    · exact .refl _
    · exact h.js x
  · rw [hd.get h.asc]
    split
    · simp
    · exact h.sorted x
theorem PRel.of {M L : List Sp} (h : PRel M L) (x : Int) {K : List Jc} (hp : (K.map Jc.co).Perm ((getD M x).js.map Jc.co)) (hs : K.Pairwise (fun a b => cmpJ a b ≤ 0)) : K.map Jc.co = (getD L x).js.map Jc.co :=
  sorted_same (hp.trans (h.js x)) hs (h.sorted x)

/-- A justification comes where it belongs. -/
theorem ins_sorted {js : List Jc} {J : Jc} {a : Nat} (h : js.Pairwise (fun a b => cmpJ a b ≤ 0)) (ha : a ≤ js.length) (h1 : ∀ k (hk : k < js.length), k + 1 = a → cmpJ js[k] J < 0) (h2 : ∀ k (hk : k < js.length), a ≤ k → ¬ cmpJ js[k] J < 0) :
    (js.take a ++ [J] ++ js.drop a).Pairwise (fun a b => cmpJ a b ≤ 0) := by
  have hp := List.pairwise_iff_getElem.1 h
  have hrefl : ∀ x, cmpJ x x ≤ 0 := fun x => by have := cmp_just.anti x x; omega
  have hlo : ∀ x ∈ js.take a, cmpJ x J ≤ 0 := fun x hx => by
    obtain ⟨i, hi, rfl⟩ := List.getElem_of_mem hx
    rw [List.length_take] at hi
    rw [List.getElem_take]
    obtain ⟨b, rfl⟩ : ∃ b, a = b + 1 := ⟨a - 1, by omega⟩
    have hb := h1 b (by omega) rfl
    rcases Nat.lt_or_ge i b with q | q
    · exact cmp_just.trans _ _ _ (hp i b (by omega) (by omega) q) (by omega)
    · obtain rfl : i = b := by omega
      omega
  have hhi : ∀ x ∈ js.drop a, cmpJ J x ≤ 0 := fun x hx => by
    obtain ⟨i, hi, rfl⟩ := List.getElem_of_mem hx
    rw [List.length_drop] at hi
    rw [List.getElem_drop]
    have := h2 (a + i) (by omega) (by omega)
    have := cmp_just.anti js[a + i] J
    omega
  rw [List.pairwise_append, List.pairwise_append]
  refine ⟨⟨h.sublist (List.take_sublist _ _), by simp, fun x hx y hy => ?_⟩, h.sublist (List.drop_sublist _ _), fun x hx y hy => ?_⟩
  · simp only [List.mem_singleton] at hy
    subst hy
    exact hlo x hx
  · rcases List.mem_append.1 hx with hx | hx
    · exact cmp_just.trans _ _ _ (hlo x hx) (hhi y hy)
    · simp only [List.mem_singleton] at hx
      subst hx
      exact hhi y hy
theorem ins_perm (js : List Jc) (J : Jc) (a : Nat) : ((js.take a ++ [J] ++ js.drop a).map Jc.co).Perm (js.map Jc.co ++ [J.co]) := by
  have h1 : (js.take a ++ [J] ++ js.drop a).Perm (js ++ [J]) := by
    conv => rhs; rw [← List.take_append_drop a js]
    rw [List.append_assoc, List.append_assoc]
    exact List.Perm.append_left _ List.perm_append_comm
  have := h1.map Jc.co
  rw [List.map_append (l₁ := js)] at this
  exact this
end Go.Proofs.Ytmcajoccfbebiaa
