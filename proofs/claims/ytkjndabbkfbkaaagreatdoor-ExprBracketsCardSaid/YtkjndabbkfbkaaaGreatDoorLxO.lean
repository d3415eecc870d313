/- Words: a word is read again where fewer bytes stand, if its own do. No program is named. -/
import Derived.Test.YtkjndabbkfbkaaaGreatDoorLxN
namespace Go.Proofs.YtkjndabbkfbkaaaGreatDoor
open Go Go.Lib

theorem txtSpan_take : ∀ (b : Bool) (l : List UInt8) (m : Nat), txtSpan b l < m → txtSpan b (l.take m) = txtSpan b l
  | b, [], m, _ => by simp
  | b, c :: q, m, h => by
    obtain ⟨m, rfl⟩ : ∃ k, m = k + 1 := ⟨m - 1, by omega⟩
    rw [List.take_succ_cons, txtSpan_cons, txtSpan_cons]
    rw [txtSpan_cons] at h
    by_cases hc : ((c == 34 && !b) || !priC c) = true
    · rw [if_pos hc, if_pos hc]
    · rw [if_neg hc] at h
      rw [if_neg hc, if_neg hc, txtSpan_take _ q m (by omega)]
/-- What a number has, from what stands behind its first digits. -/
def numTail (n : Nat) (x : List UInt8) : Nat := match x with
  | 46 :: c :: r => if digC c then n + (1 + spanL digC (c :: r)) else n
  | _ => n
theorem numLen_eq (l : List UInt8) : numLen l = numTail (spanL digC l) (l.drop (spanL digC l)) := rfl
theorem numTail_ge (n : Nat) (x : List UInt8) : n ≤ numTail n x := by
  unfold numTail
  split
  · split <;> omega
  · omega
theorem numTail_take (n m : Nat) (x : List UInt8) (h : numTail n x ≤ n + m) : numTail n (x.take m) = numTail n x := by
  match x with
  | [] => simp
  | [a] =>
    have e : numTail n [a] = n := by unfold numTail; split <;> simp_all
    cases m with
    | zero => rw [e]; rfl
    | succ m => simp
  | a :: c :: q =>
    by_cases ha : a = 46 ∧ digC c = true
    · obtain ⟨rfl, hc⟩ := ha
      have e : ∀ y, numTail n (46 :: c :: y) = n + (1 + spanL digC (c :: y)) := fun y => by unfold numTail; simp [hc]
      rw [e] at h
      have hk := spanL_cons (q := digC) (r := q) hc
      obtain ⟨k, rfl⟩ : ∃ k, m = k + 2 := ⟨m - 2, by omega⟩
      have h3 := spanL_take (q := digC) (c :: q) (k + 1) (by omega)
      rw [List.take_succ_cons] at h3
      rw [List.take_succ_cons, List.take_succ_cons, e, e, h3]
    · have e1 : ∀ y, numTail n (a :: c :: y) = n := fun y => by
        unfold numTail
        split
        · rename_i e
          simp only [List.cons.injEq] at e
          obtain ⟨e1, e2, _⟩ := e
          subst e1 e2
          rw [if_neg (fun h => ha ⟨rfl, h⟩)]
        · rfl
      rw [e1]
      match m with
      | 0 => rfl
      | 1 =>
        show numTail n [a] = n
        unfold numTail
        split <;> simp_all
      | m + 2 => rw [List.take_succ_cons, List.take_succ_cons, e1]
theorem numLen_take (l : List UInt8) (m : Nat) (h : numLen l ≤ m) : numLen (l.take m) = numLen l := by
  have hsp := numTail_ge (spanL digC l) (l.drop (spanL digC l))
  rw [← numLen_eq] at hsp
  rw [numLen_eq, spanL_take (q := digC) l m (by omega), List.drop_take, numTail_take _ _ _ (by rw [← numLen_eq]; omega), ← numLen_eq]
theorem take_less {l : List UInt8} {n m : Nat} (h : n ≤ m) : (l.take m).take n = l.take n := by
  rw [List.take_take, Nat.min_eq_left h]
/-- A word is read again where fewer bytes stand, if its own do. -/
theorem wordL_take {l : List UInt8} {w : Wd} {n : Nat} (h : wordL l = .ok (w, n)) {m : Nat} (hm : n ≤ m) : wordL (l.take m) = .ok (w, n) := by
  obtain ⟨hn1, hnl⟩ := wordL_len h
  cases l with
  | nil => cases h
  | cons c q =>
    obtain ⟨k, rfl⟩ : ∃ k, m = k + 1 := ⟨m - 1, by omega⟩
    have htk := take_less (l := c :: q) hm
    rw [List.take_succ_cons] at htk ⊢
    unfold wordL at h ⊢
    simp only at h ⊢
    by_cases h1 : lowC c = true
    · rw [if_pos h1] at h ⊢
      obtain ⟨e1, e2, e3⟩ := shortW_ok h
      have hsp := spanL_take (q := namC) (c :: q) (k + 1) (by omega)
      rw [List.take_succ_cons] at hsp
      rw [hsp, e1, htk]
      rw [e1] at e2 e3
      rw [e3, e2]
    rw [if_neg h1] at h ⊢
    by_cases h2 : digC c = true
    · rw [if_pos h2] at h ⊢
      unfold numW at h ⊢
      cases hp : prsL ((c :: q).take (numLen (c :: q))) with
      | error e => rw [hp] at h; cases h
      | ok v =>
        rw [hp] at h
        injection h with h
        simp only [Prod.mk.injEq] at h
        obtain ⟨e1, e2⟩ := h
        have hnl2 := numLen_take (c :: q) (k + 1) (by omega)
        rw [List.take_succ_cons] at hnl2
        rw [e2] at hp e1 hnl2
        rw [hnl2, htk, hp]
        simp only [e1]
    rw [if_neg h2] at h ⊢
    by_cases h3 : c = 34
    · rw [if_pos h3] at h ⊢
      rw [txtW_cons] at h ⊢
      by_cases hq : ((c :: q).drop (1 + txtSpan false q)).head? = some 34
      · rw [if_pos hq] at h
        cases hp : prsL ((c :: q).take (txtSpan false q + 2)) with
        | error e => rw [hp] at h; cases h
        | ok v =>
          rw [hp] at h
          injection h with h
          simp only [Prod.mk.injEq] at h
          obtain ⟨e1, e2⟩ := h
          have hag := txtSpan_take false q k (by omega)
          have hdr : ((c :: q.take k).drop (1 + txtSpan false q)).head? = some 34 := by
            rw [Nat.add_comm, List.drop_succ_cons] at hq ⊢
            rw [List.head?_drop] at hq ⊢
            rw [List.getElem?_take_of_lt (by omega)]
            exact hq
          rw [hag, if_pos hdr, e2, htk, ← e2, hp]
          simp only [take_less (l := q) (show txtSpan false q ≤ k by omega), e1]
      · rw [if_neg hq] at h
        cases h
    rw [if_neg h3] at h ⊢
    have hmk : markB (c :: q) = true → 1 ≤ k → markB (c :: q.take k) = true := fun hmb hk => by
      cases q with
      | nil => cases hmb
      | cons d q =>
        obtain ⟨j, rfl⟩ : ∃ j, k = j + 1 := ⟨k - 1, by omega⟩
        rw [List.take_succ_cons]
        exact hmb
    have hmn : ¬ markB (c :: q) = true → ¬ markB (c :: q.take k) = true := fun hmb hk => by
      cases q with
      | nil => simp [markB] at hk
      | cons d q =>
        cases k with
        | zero => simp [markB] at hk
        | succ k =>
          rw [List.take_succ_cons] at hk
          exact hmb hk
    have hpos : markB (c :: q) = true → 1 ≤ spanL namC q := fun hmb => by
      cases q with
      | nil => cases hmb
      | cons d q =>
        have hd : namC d = true := by unfold namC; rw [show lowC d = true from hmb]; rfl
        rw [spanL_cons hd]
        omega
    by_cases h4 : c = 63
    · rw [if_pos h4] at h ⊢
      by_cases hb : markB (c :: q) = true
      · rw [if_pos hb] at h
        obtain ⟨e1, e2, e3⟩ := shortW_ok h
        have := hpos hb
        have hsp := spanL_take (q := namC) q k (by omega)
        rw [if_pos (hmk hb (by omega)), hsp, take_less (show spanL namC q ≤ k by omega)]
        exact h
      · rw [if_neg hb] at h
        rw [if_neg (hmn hb)]
        exact h
    rw [if_neg h4] at h ⊢
    by_cases h5 : c = 35 ∧ markB (c :: q) = true
    · rw [if_pos h5] at h
      obtain ⟨e1, e2, e3⟩ := shortW_ok h
      have := hpos h5.2
      have hsp := spanL_take (q := namC) q k (by omega)
      rw [if_pos ⟨h5.1, hmk h5.2 (by omega)⟩, hsp, take_less (show spanL namC q ≤ k by omega)]
      exact h
    rw [if_neg h5] at h
    rw [if_neg (fun hh => h5 ⟨hh.1, Decidable.byContradiction fun hx => hmn hx hh.2⟩)]
    unfold signW at h ⊢
    by_cases h6 : (c :: q).take 2 ∈ twos
    · rw [if_pos h6] at h
      injection h with h
      simp only [Prod.mk.injEq] at h
      obtain ⟨e1, e2⟩ := h
      subst e2
      rw [htk, if_pos h6, e1]
    · rw [if_neg h6] at h
      split at h
      · rename_i h7
        injection h with h
        simp only [Prod.mk.injEq] at h
        obtain ⟨e1, e2⟩ := h
        subst e2
        have h8 : ¬ (c :: q.take k).take 2 ∈ twos := fun hh => by
          cases k with
          | zero =>
            rw [List.take_zero] at hh
            have : ∀ x ∈ twos, x.length = 2 := by decide
            have := this _ hh
            simp at this
          | succ k =>
            have := take_less (l := c :: q) (show 2 ≤ k + 1 + 1 by omega)
            rw [List.take_succ_cons] at this
            rw [this] at hh
            exact h6 hh
        rw [if_neg h8, htk, if_pos h7, e1]
      · cases h
end Go.Proofs.YtkjndabbkfbkaaaGreatDoor
