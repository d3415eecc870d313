/- witanlaw29's held: what a book says behind a script of plain facts and justifications. -/
import Derived.Test.YtmcajoccfbebiaaTrLaw
namespace Go.Proofs.Ytmcajoccfbebiaa
open Go Go.RowKit Go.MapKept Go.Sort

/-- The book says what the script says. -/
structure Says (M : List Sp) (l : List OpD) : Prop where
  ids : (M.map Sp.id).Nodup
  mem : ∀ x, x ∈ M.map Sp.id ↔ ∃ d ∈ l, (d.k = 1 ∨ d.k = 2) ∧ d.id = x
  plain : ∀ x, (getD M x).plain = true ↔ ∃ d ∈ l, d.k = 1 ∧ d.id = x
  co : ∀ x c, c ∈ (getD M x).js.map Jc.co ↔ ∃ d ∈ l, d.k = 2 ∧ d.id = x ∧ d.j.jc.co = c
  once : ∀ x, ((getD M x).js.map Jc.co).Nodup
theorem Says.nil : Says [] [] := ⟨by simp, by simp, by simp [getD, getS], by simp [getD, getS], by simp [getD, getS]⟩
theorem mem_put_ids (M : List Sp) (q : Sp) (x : Int) : x ∈ (putS M q).map Sp.id ↔ x ∈ M.map Sp.id ∨ q.id = x := by
  induction M with
  | nil => simp [putS, eq_comm]
  | cons r M ih =>
    unfold putS
    split
    · rename_i h
      simp only [List.map_cons, List.mem_cons, h]
      constructor
      · rintro (h | h)
        · exact .inl (.inl h)
        · exact .inl (.inr h)
      · rintro ((h | h) | h)
        · exact .inl h
        · exact .inr h
        · exact .inl h.symm
    · simp only [List.map_cons, List.mem_cons, ih, or_assoc]
theorem put_nodup {M : List Sp} (q : Sp) (h : (M.map Sp.id).Nodup) : ((putS M q).map Sp.id).Nodup := by
  induction M with
  | nil => simp [putS]
  | cons r M ih =>
    rw [List.map_cons, List.nodup_cons] at h
    unfold putS
    split
    · rename_i e
      rw [List.map_cons, List.nodup_cons, ← e]
      exact h
    · rename_i e
      rw [List.map_cons, List.nodup_cons, mem_put_ids]
      exact ⟨fun q => q.elim h.1 fun q => e q.symm, ih h.2⟩
theorem Says.put {M : List Sp} {l : List OpD} {d : OpD} {q : Sp} (h : Says M l) (hq : q.id = d.id) (hk : d.k = 1 ∨ d.k = 2) (hp : q.plain = true ↔ (getD M d.id).plain = true ∨ d.k = 1)
    (hc : ∀ c, c ∈ q.js.map Jc.co ↔ c ∈ (getD M d.id).js.map Jc.co ∨ (d.k = 2 ∧ d.j.jc.co = c)) (hn : (q.js.map Jc.co).Nodup) : Says (putS M q) (l ++ [d]) := by
  refine ⟨put_nodup q h.ids, fun x => ?_, fun x => ?_, fun x c => ?_, fun x => ?_⟩
  · rw [mem_put_ids, h.mem, hq]
    simp only [List.mem_append, List.mem_singleton, or_and_right, exists_or, exists_eq_left]
    refine or_congr Iff.rfl ⟨fun e => ?_, fun e => ?_⟩
    · rcases hk with k | k
      · exact .inl ⟨k, e⟩
      · exact .inr ⟨k, e⟩
    · exact e.elim (·.2) (·.2)
  · rw [getD_put, hq]
    simp only [List.mem_append, List.mem_singleton, or_and_right, exists_or, exists_eq_left]
    split
    · rename_i e
      subst e
      rw [hp, h.plain]
      simp
    · rename_i e
      rw [h.plain]
      simp [e]
  · rw [getD_put, hq]
    simp only [List.mem_append, List.mem_singleton, or_and_right, exists_or, exists_eq_left]
    split
    · rename_i e
      subst e
      rw [hc, h.co]
      simp
    · rename_i e
      rw [h.co]
      simp [e]
  · rw [getD_put]
    split
    · exact hn
    · exact h.once x
theorem Says.skip {M : List Sp} {l : List OpD} {d : OpD} (h : Says M l) (h1 : d.k ≠ 1) (h2 : d.k ≠ 2) : Says M (l ++ [d]) := by
  refine ⟨h.ids, fun x => ?_, fun x => ?_, fun x c => ?_, h.once⟩
  · rw [h.mem]
    simp only [List.mem_append, List.mem_singleton, or_and_right, exists_or, exists_eq_left]
    simp [h1, h2]
  · rw [h.plain]
    simp only [List.mem_append, List.mem_singleton, or_and_right, exists_or, exists_eq_left]
    simp [h1]
  · rw [h.co]
    simp only [List.mem_append, List.mem_singleton, or_and_right, exists_or, exists_eq_left]
    simp [h2]
/-- Which calls there are says it all: no order, no count. -/
theorem Says.congr {M : List Sp} {l l' : List OpD} (h : Says M l) (e : ∀ d, d ∈ l ↔ d ∈ l') : Says M l' :=
  ⟨h.ids, fun x => (h.mem x).trans (by simp only [e]), fun x => (h.plain x).trans (by simp only [e]), fun x c => (h.co x c).trans (by simp only [e]), h.once⟩
theorem Says.plain_eq {M M' : List Sp} {l : List OpD} (h : Says M l) (h' : Says M' l) (x : Int) : (getD M x).plain = (getD M' x).plain := by
  rw [Bool.eq_iff_iff, h.plain, h'.plain]
theorem Says.ids_eq {M M' : List Sp} {l : List OpD} (h : Says M l) (h' : Says M' l) : idsS M = idsS M' :=
  rise_congr ((List.perm_ext_iff_of_nodup h.ids h'.ids).2 fun x => by rw [h.mem, h'.mem])
theorem Says.js_perm {M M' : List Sp} {l : List OpD} (h : Says M l) (h' : Says M' l) (x : Int) : ((getD M x).js.map Jc.co).Perm ((getD M' x).js.map Jc.co) :=
  (List.perm_ext_iff_of_nodup (h.once x) (h'.once x)).2 fun c => by rw [h.co, h'.co]
theorem Says.held_eq {M M' : List Sp} {l : List OpD} (h : Says M l) (h' : Says M' l) (x : Int) : Held M x ↔ Held M' x :=
  ⟨held_congr (fun y hy => by rwa [← h.plain_eq h']) (fun y c hc => ⟨c, (h.js_perm h' y).mem_iff.1 hc, rfl⟩), held_congr (fun y hy => by rwa [h.plain_eq h']) (fun y c hc => ⟨c, (h.js_perm h' y).mem_iff.2 hc, rfl⟩)⟩
/-- The lost ones, as Lost tells them. -/
theorem lost_eq {M M' : List Sp} {P P' : Int → Bool} {ll ll' : List Int} (hi : idsS M = idsS M') (hh : ∀ x, Held M x ↔ Held M' x) (hP : ∀ x ∈ idsS M, P x = true ↔ Held M x) (hll : ll = (idsS M).filter fun x => !P x)
    (hP' : ∀ x ∈ idsS M', P' x = true ↔ Held M' x) (hll' : ll' = (idsS M').filter fun x => !P' x) : ll = ll' := by
  rw [hll, hll', ← hi]
  refine List.filter_congr fun x hx => ?_
  have : P x = P' x := by rw [Bool.eq_iff_iff, hP x hx, hP' x (by rw [← hi]; exact hx), hh]
  rw [this]

/-- Justifications that say the same, sorted, are the same in their order. -/
def cmpC (c d : Int × List Int) : Int := cmpJ ⟨c.1, c.2, .agg #[]⟩ ⟨d.1, d.2, .agg #[]⟩
theorem cmpC_co (a b : Jc) : cmpC a.co b.co = cmpJ a b := cmpJ_co rfl rfl
theorem sorted_same {L L' : List Jc} (hp : (L.map Jc.co).Perm (L'.map Jc.co)) (h : L.Pairwise (fun a b => cmpJ a b ≤ 0)) (h' : L'.Pairwise (fun a b => cmpJ a b ≤ 0)) : L.map Jc.co = L'.map Jc.co := by
  refine hp.eq_of_pairwise (le := fun c d => cmpC c d ≤ 0) (fun c d _ _ h1 h2 => ?_) (List.pairwise_map.2 ?_) (List.pairwise_map.2 ?_)
  · have := cmp_just.anti ⟨c.1, c.2, .agg #[]⟩ ⟨d.1, d.2, .agg #[]⟩
    have e : cmpJ ⟨c.1, c.2, .agg #[]⟩ ⟨d.1, d.2, .agg #[]⟩ = 0 := by
      unfold cmpC at h1 h2
      omega
    exact (cmpJ_zero _ _).1 e
  · exact h.imp fun q => by rw [cmpC_co]; exact q
  · exact h'.imp fun q => by rw [cmpC_co]; exact q

theorem plain_sb {w : World} {b m k : Nat} {M : List Sp} {l : List OpD} (d : OpD) (h : Bk w b m M k) (hs : Says M l) (hd : d.k = 1) (hk : k < 1000) (hwf : (Lit.int .i64 d.id).wf = true) :
    Calls Try.prog 27 #[.pointer (some ⟨b, 0, none⟩), .int .i64 d.id] w fun e w' => e = .returned (.tuple #[]) ∧ (∃ M', Bk w' b m M' (k + 1) ∧ Says M' (l ++ [d])) ∧ Only [m] w w' := by
  have hl := h.len
  refine (plain_any b m M d.id w h.book hwf (by omega)).mono ?_
  rintro e w' ⟨rfl, hB, ho⟩
  refine ⟨rfl, ⟨_, h.put hB (by have := h.js d.id; simp only; omega), hs.put rfl (.inl hd) (by simp [hd]) (fun c => ?_) (hs.once d.id)⟩, ho⟩
  have : ¬ (d.k = 2) := by omega
  simp [this]
theorem any_same {js : List Jc} (J : Jc) : (js.any fun x => x.same J) = true ↔ J.co ∈ js.map Jc.co := by
  rw [List.any_eq_true, List.mem_map]
  refine exists_congr fun j => and_congr Iff.rfl ?_
  unfold Jc.same Jc.co
  rw [decide_eq_true_iff, Prod.mk.injEq]
theorem justify_sb {w : World} {b m k : Nat} {M : List Sp} {l : List OpD} (d : OpD) (h : Bk w b m M k) (hs : Says M l) (hd : d.k = 2) (hk : k < 1000) (hwf : (Lit.int .i64 d.id).wf = true) (hJ : JOk w d.j) (hn : d.j.n ≤ 20) :
    Calls Try.prog 28 #[.pointer (some ⟨b, 0, none⟩), .int .i64 d.id, d.j.val] w fun e w' => (∃ p, e = .returned (.bool p)) ∧ (∃ M', Bk w' b m M' (k + 1) ∧ Says M' (l ++ [d])) ∧ Only [m] w w' := by
  have hl := h.len
  have hj := h.js d.id
  obtain ⟨hJl, hJn⟩ := hJ.2 (by omega)
  refine (justify_any b m M d.id d.j.jc w h.book hJn hwf (by omega) (by omega)).mono ?_
  rintro e w' ⟨rfl, ⟨q, h1, h2, h3, hB⟩, ho⟩
  refine ⟨⟨_, rfl⟩, ⟨_, h.put hB ?_, hs.put h1 (.inr hd) ?_ (fun c => ?_) ?_⟩, ho⟩
  · have := congrArg List.length h3
    rw [List.length_map, List.length_append, List.length_map] at this
    split at this <;> simp at this <;> omega
  · rw [h2]
    simp [hd]
  · rw [h3, List.mem_append]
    split
    · rename_i e
      rw [any_same] at e
      constructor
      · rintro (h | h)
        · exact .inl h
        · cases h
      · rintro (h | ⟨_, rfl⟩)
        · exact .inl h
        · exact .inl e
    · simp [hd, eq_comm]
  · rw [h3]
    split
    · rw [List.append_nil]
      exact hs.once _
    · rename_i e
      rw [any_same] at e
      rw [List.nodup_append]
      refine ⟨hs.once _, by simp, fun x hx y hy => ?_⟩
      simp only [List.mem_singleton] at hy
      subst hy
      rintro rfl
      exact e hx
end Go.Proofs.Ytmcajoccfbebiaa
