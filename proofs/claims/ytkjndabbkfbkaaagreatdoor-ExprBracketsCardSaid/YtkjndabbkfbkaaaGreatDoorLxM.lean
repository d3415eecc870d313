/- Words: what stands behind a word changes nothing of it. No program is named. -/
import Derived.Test.YtkjndabbkfbkaaaGreatDoorLxL
namespace Go.Proofs.YtkjndabbkfbkaaaGreatDoor
open Go Go.Lib

theorem spanL_app {q : UInt8 → Bool} : ∀ (a r : List UInt8), (∀ c ∈ a, q c = true) → (∀ c, r.head? = some c → q c = false) → spanL q (a ++ r) = a.length
  | [], r, _, hr => by
    cases r with
    | nil => rfl
    | cons c r =>
      have := hr c rfl
      unfold spanL
      rw [List.nil_append, List.takeWhile_cons, if_neg (by simp [this])]
  | c :: a, r, ha, hr => by
    rw [List.cons_append, spanL_cons (ha c List.mem_cons_self), spanL_app a r (fun d hd => ha d (List.mem_cons_of_mem _ hd)) hr, List.length_cons]
    omega
theorem spanL_mem {q : UInt8 → Bool} : ∀ (l : List UInt8), ∀ c ∈ l.take (spanL q l), q c = true
  | [], c, h => by simp at h
  | d :: l, c, h => by
    by_cases hd : q d = true
    · rw [spanL_cons hd, Nat.add_comm, List.take_succ_cons, List.mem_cons] at h
      rcases h with rfl | h
      · exact hd
      · exact spanL_mem l c h
    · have : spanL q (d :: l) = 0 := by
        unfold spanL
        rw [List.takeWhile_cons, if_neg hd]
        rfl
      rw [this] at h
      simp at h
/-- A run ends where it ended, whatever of another kind stands behind. -/
theorem spanL_stop {q : UInt8 → Bool} (l r : List UInt8) (hr : ∀ c, r.head? = some c → q c = false) : spanL q (l.take (spanL q l) ++ r) = spanL q l := by
  rw [spanL_app _ _ (spanL_mem l) hr, List.length_take]
  have := spanL_le q l
  omega
/-- .. also behind fewer bytes than there were. -/
theorem spanL_take {q : UInt8 → Bool} : ∀ (l : List UInt8) (m : Nat), spanL q l ≤ m → spanL q (l.take m) = spanL q l
  | [], m, _ => by simp
  | d :: l, m, h => by
    by_cases hd : q d = true
    · rw [spanL_cons hd] at h ⊢
      cases m with
      | zero => omega
      | succ m =>
        rw [List.take_succ_cons, spanL_cons hd, spanL_take l m (by omega)]
    · have e : ∀ r, spanL q (d :: r) = 0 := fun r => by
        unfold spanL
        rw [List.takeWhile_cons, if_neg hd]
        rfl
      rw [e]
      cases m with
      | zero => rfl
      | succ m => rw [List.take_succ_cons, e]
/-- A run is the same with something of another kind behind the whole. -/
theorem spanL_behind {q : UInt8 → Bool} : ∀ (l r : List UInt8), (∀ c, r.head? = some c → q c = false) → spanL q (l ++ r) = spanL q l
  | [], r, hr => spanL_app [] r (by simp) hr
  | d :: l, r, hr => by
    by_cases hd : q d = true
    · rw [List.cons_append, spanL_cons hd, spanL_cons hd, spanL_behind l r hr]
    · have e : ∀ r, spanL q (d :: r) = 0 := fun r => by
        unfold spanL
        rw [List.takeWhile_cons, if_neg hd]
        rfl
      rw [List.cons_append, e, e]
theorem take_behind {l r : List UInt8} {n : Nat} (h : n ≤ l.length) : (l ++ r).take n = l.take n := List.take_append_of_le_length h
theorem txtSpan_behind : ∀ (b : Bool) (l r : List UInt8), txtSpan b (l ++ 10 :: r) = txtSpan b l
  | b, [], r => by
    rw [List.nil_append]
    unfold txtSpan
    rw [if_pos (by simp [priC])]
  | b, c :: l, r => by
    rw [List.cons_append]
    unfold txtSpan
    split
    · rfl
    · rw [txtSpan_behind]
theorem numLen_behind (l r : List UInt8) : numLen (l ++ 10 :: r) = numLen l := by
  have h1 := spanL_behind (q := digC) l (10 :: r) (by simp [digC])
  have h2 := spanL_le digC l
  unfold numLen
  rw [h1, List.drop_append_of_le_length h2]
  cases hd : l.drop (spanL digC l) with
  | nil => rfl
  | cons a l1 =>
    cases l1 with
    | nil =>
      rw [List.cons_append, List.nil_append]
      by_cases ha : a = 46
      · subst ha
        simp [digC]
      · split
        · rename_i e; injection e with e; exact absurd e ha
        · split
          · rename_i e; injection e with e; exact absurd e ha
          · rfl
    | cons b l2 =>
      rw [List.cons_append, List.cons_append]
      by_cases ha : a = 46
      · subst ha
        have := spanL_behind (q := digC) (b :: l2) (10 :: r) (by simp [digC])
        rw [List.cons_append] at this
        simp only [this]
      · split
        · rename_i e; injection e with e; exact absurd e ha
        · split
          · rename_i e; injection e with e; exact absurd e ha
          · rfl
theorem numW_behind (l r : List UInt8) (hl : numLen l ≤ l.length) : numW (l ++ 10 :: r) = numW l := by
  unfold numW
  rw [numLen_behind, take_behind hl]
theorem txtW_behind (c : UInt8) (l r : List UInt8) : txtW ((c :: l) ++ 10 :: r) = txtW (c :: l) := by
  have h1 := txtSpan_behind false l r
  have h2 := txtSpan_le false l
  unfold txtW
  rw [List.cons_append, List.tail_cons, List.tail_cons, h1]
  have e1 : ((c :: (l ++ 10 :: r)).drop (1 + txtSpan false l)).head? = some 34 ↔ ((c :: l).drop (1 + txtSpan false l)).head? = some 34 := by
    rw [Nat.add_comm, List.drop_succ_cons, List.drop_succ_cons, List.drop_append_of_le_length h2]
    cases hd : l.drop (txtSpan false l) with
    | nil => simp
    | cons d q => simp
  by_cases hq : ((c :: l).drop (1 + txtSpan false l)).head? = some 34
  · rw [if_pos (e1.2 hq), if_pos hq]
    have h3 : txtSpan false l + 2 ≤ (c :: l).length := by
      rw [List.head?_drop] at hq
      have := (List.getElem?_eq_some_iff.1 hq).1
      omega
    have e2 : (c :: (l ++ 10 :: r)).take (txtSpan false l + 2) = (c :: l).take (txtSpan false l + 2) := by
      have := take_behind (l := c :: l) (r := 10 :: r) h3
      rwa [List.cons_append] at this
    rw [e2, take_behind h2]
  · rw [if_neg (fun h => hq (e1.1 h)), if_neg hq]
theorem signW_behind (c : UInt8) (l r : List UInt8) : signW ((c :: l) ++ 10 :: r) = signW (c :: l) := by
  unfold signW
  have e1 : ((c :: l) ++ 10 :: r).take 1 = (c :: l).take 1 := rfl
  rw [e1]
  cases l with
  | cons d l => rfl
  | nil =>
    have h1 : ¬ ([c] ++ 10 :: r).take 2 ∈ twos := by
      show ¬ [c, 10] ∈ twos
      unfold twos
      simp
    have h2 : ¬ [c].take 2 ∈ twos := by
      show ¬ [c] ∈ twos
      unfold twos
      simp
    rw [if_neg h1, if_neg h2]
theorem markB_behind (c : UInt8) (l r : List UInt8) : markB ((c :: l) ++ 10 :: r) = markB (c :: l) := by
  cases l with
  | nil => simp [markB, lowC]
  | cons d l => rfl
/-- A line end behind the whole changes no word. -/
theorem wordL_behind (l r : List UInt8) (hl : l ≠ []) : wordL (l ++ 10 :: r) = wordL l := by
  obtain ⟨c, q, rfl⟩ := List.exists_cons_of_ne_nil hl
  have h1 := spanL_behind (q := namC) (c :: q) (10 :: r) (by simp [namC, lowC, digC])
  have h2 := spanL_behind (q := namC) q (10 :: r) (by simp [namC, lowC, digC])
  have h3 := take_behind (l := c :: q) (r := 10 :: r) (spanL_le namC (c :: q))
  have h4 := take_behind (l := q) (r := 10 :: r) (spanL_le namC q)
  have h5 := txtW_behind c q r
  have h6 := signW_behind c q r
  have h7 := markB_behind c q r
  rw [List.cons_append] at h1 h3 h5 h6 h7
  have h8 : digC c = true → numW (c :: (q ++ 10 :: r)) = numW (c :: q) := fun h => numW_behind (c :: q) r (numLen_pos h).2
  rw [List.cons_append]
  unfold wordL
  simp only [h1, h2, h3, h4, h5, h6, h7]
  by_cases hc : lowC c = true
  · rw [if_pos hc, if_pos hc]
  · rw [if_neg hc, if_neg hc]
    by_cases hd : digC c = true
    · rw [if_pos hd, if_pos hd, h8 hd]
    · rw [if_neg hd, if_neg hd]
end Go.Proofs.YtkjndabbkfbkaaaGreatDoor
