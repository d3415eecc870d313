/- The plain law of an agenda's entries. -/
import Derived.Test.YtelgajgghgknnaaAg6
namespace Go.Proofs.Ytelgajgghgknnaa
open Go Go.RowKit Go.MapKept Go.Sort

def sameC (c d : Co) : Bool := decide (c.rule = d.rule ∧ c.tup = d.tup)
theorem same_co (a b : Ac) : a.same b = sameC a.co b.co := rfl
theorem same_iff {a b : Ac} : a.same b = true ↔ a.rule = b.rule ∧ a.tup = b.tup := by simp [Ac.same]
theorem same_comm (a b : Ac) : a.same b = b.same a := by
  unfold Ac.same
  rw [Bool.eq_iff_iff]
  simp only [decide_eq_true_eq]
  constructor <;> rintro ⟨h1, h2⟩ <;> exact ⟨h1.symm, h2.symm⟩
theorem same_trans {a b c : Ac} (h : a.same b = true) : a.same c = b.same c := by
  obtain ⟨h1, h2⟩ := same_iff.1 h
  unfold Ac.same
  rw [h1, h2]
theorem same_of_co {a b : Ac} (h : a.co = b.co) : a.same b = true := by
  unfold Ac.co at h
  injection h with h1 h2 h3
  exact same_iff.2 ⟨h1, h2⟩
theorem same_co2 {a b c : Ac} (h : b.co = c.co) : a.same b = a.same c := by rw [same_co, same_co, h]
theorem fired_co2 {l : List En} {b c : Ac} (h : b.co = c.co) : firedE l b = firedE l c := by unfold firedE; simp only [same_co2 h]
theorem has_co2 {l : List En} {b c : Ac} (h : b.co = c.co) : hasE l b = hasE l c := by unfold hasE; simp only [same_co2 h]

/-- No two of one rule and tuple. -/
def Uniq (l : List En) : Prop := l.Pairwise (fun e f => e.ac.same f.ac = false)

theorem dropped_cons (e : En) (l : List En) (x : Ac) : dropped (e :: l) x = if e.ac.same x then l else e :: dropped l x := by
  unfold dropped
  rw [List.findIdx?_cons]
  cases h : e.ac.same x with
  | true => simp
  | false => cases h2 : l.findIdx? (fun e => e.ac.same x) <;> simp
theorem fireAt_cons (e : En) (l : List En) (x : Ac) : fireAt (e :: l) x = if e.ac.same x then e.fire :: l else e :: fireAt l x := by
  unfold fireAt
  rw [List.findIdx?_cons]
  cases h : e.ac.same x with
  | true => simp
  | false => cases h2 : l.findIdx? (fun e => e.ac.same x) <;> simp
theorem firedE_cons (e : En) (l : List En) (x : Ac) : firedE (e :: l) x = if e.ac.same x then e.fired else firedE l x := by
  unfold firedE
  rw [List.findIdx?_cons]
  cases h : e.ac.same x with
  | true => simp
  | false => cases h2 : l.findIdx? (fun e => e.ac.same x) <;> simp
theorem hasE_cons (e : En) (l : List En) (x : Ac) : hasE (e :: l) x = (e.ac.same x || hasE l x) := by simp [hasE]

theorem fireAt_acs : ∀ (l : List En) (x : Ac), (fireAt l x).map (fun e => e.ac) = l.map (fun e => e.ac)
  | [], _ => rfl
  | e :: l, x => by
    rw [fireAt_cons]
    split
    · rfl
    · simp [fireAt_acs l x]
theorem uniq_acs {l l' : List En} (h : l'.map (fun e => e.ac) = l.map (fun e => e.ac)) (hu : Uniq l) : Uniq l' := by
  have h1 : (l.map (fun e => e.ac)).Pairwise (fun a b => a.same b = false) := List.pairwise_map.2 hu
  rw [← h] at h1
  exact List.pairwise_map.1 h1
theorem has_acs {l l' : List En} (h : l'.map (fun e => e.ac) = l.map (fun e => e.ac)) (x : Ac) : hasE l' x = hasE l x := by
  have : ∀ k : List En, hasE k x = (k.map (fun e => e.ac)).any (fun a => a.same x) := fun k => by simp [hasE, List.any_map]; rfl
  rw [this, this, h]
theorem uniq_perm {l l' : List En} (h : l'.Perm l) (hu : Uniq l) : Uniq l' := (h.pairwise_iff (fun {a b} hab => by rw [same_comm]; exact hab)).2 hu
theorem laid_perm (l : List En) (i : Nat) (x : En) : (laid l i x).Perm (x :: l) := by
  unfold laid
  rw [List.append_assoc]
  refine (List.perm_middle (l₁ := l.take i) (l₂ := l.drop i)).trans ?_
  rw [List.take_append_drop]

theorem LaidAs.uniq {l l' : List En} {x : Ac} (h : LaidAs l x l') (hu : Uniq l) : Uniq l' := by
  rcases h with ⟨rfl, _⟩ | ⟨hno, i, y, _, hy, rfl⟩
  · exact hu
  · refine uniq_perm (laid_perm _ _ _) (List.pairwise_cons.2 ⟨fun e he => ?_, hu⟩)
    have := List.any_eq_false.1 hno e he
    show y.same e.ac = false
    rw [same_comm, same_co2 hy]
    simpa using this
theorem LaidAll.uniq {l l' : List En} {xs : List Ac} (h : LaidAll l xs l') (hu : Uniq l) : Uniq l' := by
  induction h with
  | nil => exact hu
  | snoc _ h2 ih => exact h2.uniq ih
theorem dropped_sub : ∀ (l : List En) (x : Ac), (dropped l x).Sublist l
  | [], _ => List.Sublist.refl _
  | e :: l, x => by
    rw [dropped_cons]
    split
    · exact List.sublist_cons_self _ _
    · exact (dropped_sub l x).cons_cons _
theorem dropped_uniq {l : List En} (hu : Uniq l) (x : Ac) : Uniq (dropped l x) := hu.sublist (dropped_sub l x)

theorem laidAll_nil {l l' : List En} (h : LaidAll l [] l') : l' = l := by
  generalize hx : ([] : List Ac) = xs at h
  cases h with
  | nil => rfl
  | snoc _ _ => simp at hx
theorem laidAll_one {l l' : List En} {x : Ac} (h : LaidAll l [x] l') : LaidAs l x l' := by
  generalize hx : [x] = xs at h
  cases h with
  | nil => simp at hx
  | snoc h1 h2 =>
    rename_i ys l1 x'
    have : ys = [] ∧ x' = x := by
      cases ys with
      | nil => simp at hx; exact ⟨rfl, hx.symm⟩
      | cons a r => simp at hx
    obtain ⟨rfl, rfl⟩ := this
    rw [← laidAll_nil h1]
    exact h2

/-- Where nothing was fired. -/
theorem LaidAs.fresh {l l' : List En} {x : Ac} (h : LaidAs l x l') (hf : ∀ e ∈ l, e.fired = false) : ∀ e ∈ l', e.fired = false := by
  rcases h with ⟨rfl, _⟩ | ⟨_, i, y, _, _, rfl⟩
  · exact hf
  · intro e he
    rcases List.mem_cons.1 ((laid_perm _ _ _).mem_iff.1 he) with rfl | he
    · rfl
    · exact hf e he
theorem LaidAll.fresh {l l' : List En} {xs : List Ac} (h : LaidAll l xs l') (hf : ∀ e ∈ l, e.fired = false) : ∀ e ∈ l', e.fired = false := by
  induction h with
  | nil => exact hf
  | snoc _ h2 ih => exact h2.fresh ih

/-- What was not fired. -/
def open' (l : List En) : List Co := (l.filter fun e => !e.fired).map fun e => e.ac.co
theorem open_cons (e : En) (l : List En) : open' (e :: l) = if e.fired then open' l else e.ac.co :: open' l := by
  unfold open'
  cases h : e.fired <;> simp [h]
theorem open_fresh {l : List En} (hf : ∀ e ∈ l, e.fired = false) : open' l = l.map fun e => e.ac.co := by
  unfold open'
  rw [List.filter_eq_self.2 (fun e he => by simp [hf e he])]

theorem open_has : ∀ {l : List En} {x : Ac}, Uniq l → x.co ∈ open' l → hasE l x = true ∧ firedE l x = false ∧ firedE (fireAt l x) x = true ∧ (open' l).Perm (x.co :: open' (fireAt l x))
  | [], x, _, h => by simp [open'] at h
  | e :: l, x, hu, h => by
    obtain ⟨hu1, hu2⟩ := List.pairwise_cons.1 hu
    rw [hasE_cons, firedE_cons, fireAt_cons]
    rw [open_cons] at h
    cases hs : e.ac.same x with
    | true =>
      have hnl : x.co ∉ open' l := fun hm => by
        unfold open' at hm
        obtain ⟨f, hf, he⟩ := List.mem_map.1 hm
        have h1 := hu1 f (List.mem_filter.1 hf).1
        have h2 : e.ac.same f.ac = e.ac.same x := same_co2 he
        rw [h1, hs] at h2
        cases h2
      cases hfi : e.fired with
      | true => rw [hfi, if_pos rfl] at h; exact absurd h hnl
      | false =>
        rw [hfi] at h
        simp only [Bool.false_eq_true, if_false, List.mem_cons] at h
        rcases h with h | h
        · refine ⟨rfl, by simp, ?_, ?_⟩
          · simp only [if_true]
            rw [firedE_cons]
            show (if e.ac.same x then true else _) = true
            rw [hs]; rfl
          · simp only [if_true]
            rw [open_cons, open_cons, hfi, h]
            exact List.Perm.refl _
        · exact absurd h hnl
    | false =>
      have hne : x.co ≠ e.ac.co := fun q => by rw [same_of_co q.symm] at hs; cases hs
      have h' : x.co ∈ open' l := by
        cases hfi : e.fired with
        | true => rw [hfi] at h; simpa using h
        | false => rw [hfi] at h; simp only [Bool.false_eq_true, if_false, List.mem_cons] at h; exact h.resolve_left hne
      obtain ⟨i1, i2, i3, i4⟩ := open_has hu2 h'
      refine ⟨by simp [i1], by simpa using i2, ?_, ?_⟩
      · simp only [Bool.false_eq_true, if_false]
        rw [firedE_cons, hs]
        exact i3
      · simp only [Bool.false_eq_true, if_false]
        rw [open_cons, open_cons]
        cases e.fired
        · simp only [Bool.false_eq_true, if_false]
          exact (i4.cons _).trans (List.Perm.swap _ _ _)
        · exact i4

theorem sortC_tail {s : Int} {c : Co} {rest U V : List Co} (h : sortC s U = c :: rest) (hp : U.Perm (c :: V)) : sortC s V = rest := by
  have h1 : (c :: rest).Perm (c :: V) := by rw [← h]; exact (sortC_perm s U).trans hp
  have h2 := sortC_sorted s U
  rw [h] at h2
  exact (sortC_unique s ((List.perm_cons c).1 h1) (List.pairwise_cons.1 h2).2).symm
theorem sortC_length (s : Int) (l : List Co) : (sortC s l).length = l.length := (sortC_perm s l).length_eq
theorem sortC_mem {s : Int} {l : List Co} {c : Co} : c ∈ sortC s l ↔ c ∈ l := (sortC_perm s l).mem_iff
end Go.Proofs.Ytelgajgghgknnaa
