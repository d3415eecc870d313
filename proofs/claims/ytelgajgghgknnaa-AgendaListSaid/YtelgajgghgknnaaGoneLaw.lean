/- The plain law of what comes and goes. -/
import Derived.Test.YtelgajgghgknnaaAgLaw
namespace Go.Proofs.Ytelgajgghgknnaa
open Go Go.RowKit Go.MapKept Go.Sort

theorem laid_there1 {l l' : List En} {x : Ac} (h : LaidAs l x l') : hasE l' x = true := by
  rcases h with ⟨rfl, h⟩ | ⟨_, i, y, _, hy, rfl⟩
  · exact h
  · unfold hasE
    rw [(laid_perm _ _ _).any_eq]
    simp [same_of_co hy]
theorem has_laid {l l' : List En} {x z : Ac} (h : LaidAs l x l') (hz : hasE l z = true) : hasE l' z = true := by
  rcases h with ⟨rfl, _⟩ | ⟨_, i, y, _, hy, rfl⟩
  · exact hz
  · unfold hasE at hz ⊢
    rw [(laid_perm _ _ _).any_eq]
    simp [hz]
theorem has_laidAll {l l' : List En} {xs : List Ac} (h : LaidAll l xs l') : (∀ z, hasE l z = true → hasE l' z = true) ∧ ∀ x ∈ xs, hasE l' x = true := by
  induction h with
  | nil => exact ⟨fun _ h => h, by simp⟩
  | snoc _ h2 ih =>
    refine ⟨fun z hz => has_laid h2 (ih.1 z hz), fun x hx => ?_⟩
    rcases List.mem_append.1 hx with hx | hx
    · exact has_laid h2 (ih.2 x hx)
    · simp only [List.mem_singleton] at hx
      subst hx
      exact laid_there1 h2

theorem same_ne {a x y : Ac} (h : a.same y = true) (hn : y.same x = false) : a.same x = false := by rw [same_trans h]; exact hn

theorem fired_dropped : ∀ (l : List En) {x y : Ac}, y.same x = false → firedE (dropped l y) x = firedE l x
  | [], _, _, _ => rfl
  | e :: l, x, y, h => by
    rw [dropped_cons]
    cases hs : e.ac.same y with
    | true => rw [if_pos rfl, firedE_cons, same_ne hs h]; rfl
    | false =>
      rw [if_neg (by simp), firedE_cons, firedE_cons, fired_dropped l h]
theorem has_dropped : ∀ (l : List En) {x y : Ac}, y.same x = false → hasE (dropped l y) x = hasE l x
  | [], _, _, _ => rfl
  | e :: l, x, y, h => by
    rw [dropped_cons]
    cases hs : e.ac.same y with
    | true => rw [if_pos rfl, hasE_cons, same_ne hs h]; rfl
    | false => rw [if_neg (by simp), hasE_cons, hasE_cons, has_dropped l h]
theorem fired_dropAll (g : List Ac) {x : Ac} : ∀ (l : List En), (∀ y ∈ g, y.same x = false) → firedE (g.foldl dropped l) x = firedE l x ∧ hasE (g.foldl dropped l) x = hasE l x := by
  induction g with
  | nil => intro l _; exact ⟨rfl, rfl⟩
  | cons y g ih =>
    intro l h
    obtain ⟨h1, h2⟩ := ih (dropped l y) (fun z hz => h z (.tail _ hz))
    have h0 := h y (.head _)
    exact ⟨h1.trans (fired_dropped l h0), h2.trans (has_dropped l h0)⟩
theorem fired_insert {x : Ac} {z : En} (hz : z.ac.same x = false) : ∀ (a d : List En), firedE (a ++ [z] ++ d) x = firedE (a ++ d) x
  | [], d => by show firedE (z :: d) x = _; rw [firedE_cons, hz]; rfl
  | e :: a, d => by
    show firedE (e :: (a ++ [z] ++ d)) x = firedE (e :: (a ++ d)) x
    rw [firedE_cons, firedE_cons, fired_insert hz a d]
theorem fired_laid {l l' : List En} {x y : Ac} (h : LaidAs l y l') (hn : y.same x = false) : firedE l' x = firedE l x := by
  rcases h with ⟨rfl, _⟩ | ⟨_, i, z, _, hz, rfl⟩
  · rfl
  · unfold laid
    rw [fired_insert (by show z.same x = false; rw [same_co, hz, ← same_co]; exact hn), List.take_append_drop]
theorem fired_laidAll {l l' : List En} {xs : List Ac} {x : Ac} (h : LaidAll l xs l') (hn : ∀ y ∈ xs, y.same x = false) : firedE l' x = firedE l x := by
  induction h with
  | nil => rfl
  | snoc _ h2 ih => rw [fired_laid h2 (hn _ (by simp)), ih (fun y hy => hn y (by simp [hy]))]

theorem has_gone : ∀ {l : List En} (_ : Uniq l) (x : Ac), hasE (dropped l x) x = false
  | [], _, _ => rfl
  | e :: l, hu, x => by
    obtain ⟨h1, h2⟩ := List.pairwise_cons.1 hu
    rw [dropped_cons]
    cases hs : e.ac.same x with
    | true =>
      rw [if_pos rfl]
      refine List.any_eq_false.2 fun f hf => ?_
      have := h1 f hf
      rw [same_trans hs] at this
      rw [same_comm]
      simpa using this
    | false => rw [if_neg (by simp), hasE_cons, hs, has_gone h2 x]; rfl
theorem fired_has : ∀ {l : List En} {x : Ac}, hasE l x = false → firedE l x = false
  | [], _, _ => rfl
  | e :: l, x, h => by
    rw [hasE_cons, Bool.or_eq_false_iff] at h
    rw [firedE_cons, h.1]
    exact fired_has h.2
theorem fired_fresh {l : List En} (hf : ∀ e ∈ l, e.fired = false) (x : Ac) : firedE l x = false := by
  induction l with
  | nil => rfl
  | cons e l ih =>
    rw [firedE_cons, hf e (.head _), ih (fun f h => hf f (.tail _ h))]
    simp
theorem fired_fire : ∀ {l : List En} {x : Ac}, hasE l x = true → firedE (fireAt l x) x = true
  | [], _, h => by simp [hasE] at h
  | e :: l, x, h => by
    rw [fireAt_cons]
    cases hs : e.ac.same x with
    | true =>
      rw [if_pos rfl, firedE_cons]
      show (if e.ac.same x then true else _) = true
      rw [hs]; rfl
    | false =>
      rw [if_neg (by simp), firedE_cons, hs]
      rw [hasE_cons, hs] at h
      exact fired_fire (by simpa using h)
theorem dropped_len : ∀ {l : List En} {x : Ac}, hasE l x = true → (dropped l x).length + 1 = l.length
  | [], _, h => by simp [hasE] at h
  | e :: l, x, h => by
    rw [dropped_cons]
    cases hs : e.ac.same x with
    | true => simp
    | false =>
      rw [hasE_cons, hs] at h
      have := dropped_len (l := l) (x := x) (by simpa using h)
      simp only [Bool.false_eq_true, if_false, List.length_cons]
      omega
theorem uniq_len : ∀ {l m : List En}, Uniq l → (∀ e ∈ l, hasE m e.ac = true) → l.length ≤ m.length
  | [], _, _, _ => Nat.zero_le _
  | e :: l, m, hu, h => by
    obtain ⟨h1, h2⟩ := List.pairwise_cons.1 hu
    have h3 := dropped_len (h e (.head _))
    have := uniq_len (l := l) (m := dropped m e.ac) h2 (fun f hf => by rw [has_dropped m (h1 f hf)]; exact h f (.tail _ hf))
    simp only [List.length_cons]
    omega

theorem has_mem {l : List En} {e : En} (he : e ∈ l) : hasE l e.ac = true := List.any_eq_true.2 ⟨e, he, same_of_co rfl⟩

/-- What comes and goes leaves no fewer. -/
theorem turned_len {l l' : List En} {O : List Ac} (hu : Uniq l) (h : LaidAll (O.foldl dropped l) O l') : l.length ≤ l'.length := by
  refine uniq_len hu fun e he => ?_
  by_cases hO : ∃ y ∈ O, y.same e.ac = true
  · obtain ⟨y, hy, hs⟩ := hO
    have h1 := (has_laidAll h).2 y hy
    unfold hasE at h1 ⊢
    obtain ⟨f, hf, hfs⟩ := List.any_eq_true.1 h1
    exact List.any_eq_true.2 ⟨f, hf, by rw [same_trans hfs]; exact hs⟩
  · have hn : ∀ y ∈ O, y.same e.ac = false := fun y hy => by
      cases hb : y.same e.ac with
      | false => rfl
      | true => exact absurd ⟨y, hy, hb⟩ hO
    exact (has_laidAll h).1 _ (by rw [(fired_dropAll O l hn).2]; exact has_mem he)

theorem open_one : ∀ {l : List En} {x : Ac}, Uniq l → hasE l x = true → firedE l x = false → (open' l).countP (fun c => sameC x.co c) = 1
  | [], _, _, h, _ => by simp [hasE] at h
  | e :: l, x, hu, h, hf => by
    obtain ⟨h1, h2⟩ := List.pairwise_cons.1 hu
    rw [hasE_cons] at h
    rw [firedE_cons] at hf
    rw [open_cons]
    cases hs : e.ac.same x with
    | true =>
      rw [hs, if_pos rfl] at hf
      rw [hf, if_neg (by simp), List.countP_cons, if_pos (by rw [← same_co, same_comm]; exact hs)]
      have : (open' l).countP (fun c => sameC x.co c) = 0 := by
        rw [List.countP_eq_zero]
        intro c hc
        unfold open' at hc
        obtain ⟨f, hff, rfl⟩ := List.mem_map.1 hc
        have := h1 f (List.mem_filter.1 hff).1
        rw [same_trans hs] at this
        rw [← same_co, this]
        simp
      rw [this]
    | false =>
      rw [hs] at h hf
      have ih := open_one h2 (by simpa using h) (by simpa using hf)
      cases e.fired with
      | true => simpa using ih
      | false =>
        rw [if_neg (by simp), List.countP_cons, if_neg (by rw [← same_co, same_comm, hs]; simp)]
        exact ih
theorem countP_sort (s : Int) (l : List Co) (p : Co → Bool) : (sortC s l).countP p = l.countP p := (sortC_perm s l).countP_eq p
theorem laid_fresh1 {l l' : List En} {x : Ac} (h : LaidAs l x l') (hn : hasE l x = false) : firedE l' x = false := by
  rcases h with ⟨_, h⟩ | ⟨_, i, y, _, hy, rfl⟩
  · exact absurd h (by unfold hasE at hn; rw [hn]; simp)
  · have key : ∀ (a d : List En), hasE (a ++ d) x = false → firedE (a ++ [⟨y, false⟩] ++ d) x = false := by
      intro a
      induction a with
      | nil =>
        intro d _
        show firedE (⟨y, false⟩ :: d) x = false
        rw [firedE_cons, if_pos (same_of_co hy)]
      | cons e a ih =>
        intro d hd
        show firedE (e :: (a ++ [⟨y, false⟩] ++ d)) x = false
        have hd' : hasE (e :: (a ++ d)) x = false := hd
        rw [hasE_cons, Bool.or_eq_false_iff] at hd'
        rw [firedE_cons, hd'.1]
        exact ih d hd'.2
    exact key _ _ (by rw [List.take_append_drop]; exact hn)
end Go.Proofs.Ytelgajgghgknnaa
