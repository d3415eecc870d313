/- Words: a word that stands alone, or with a blank or a line end behind, is read again. No program is named. -/
import Derived.Test.YtkjndabbkfbkaaaGreatDoorLxM
namespace Go.Proofs.YtkjndabbkfbkaaaGreatDoor
open Go Go.Lib

/-- Nothing, a blank or a line end. -/
def Stop (r : List UInt8) : Prop := ∀ c, r.head? = some c → c = 10 ∨ c = 32
theorem Stop.dig {r : List UInt8} (h : Stop r) : ∀ c, r.head? = some c → digC c = false := fun c hc => by
  rcases h c hc with rfl | rfl <;> rfl
theorem Stop.nam {r : List UInt8} (h : Stop r) : ∀ c, r.head? = some c → namC c = false := fun c hc => by
  rcases h c hc with rfl | rfl <;> rfl
theorem txtSpan_cons (b : Bool) (c : UInt8) (q : List UInt8) : txtSpan b (c :: q) = if ((c == 34 && !b) || !priC c) = true then 0 else 1 + txtSpan (c == 92 && !b) q := by
  conv => lhs; unfold txtSpan
theorem txtSpan_again : ∀ (b : Bool) (l r : List UInt8), txtSpan b l < l.length → txtSpan b (l.take (txtSpan b l + 1) ++ r) = txtSpan b l
  | b, [], r, h => by simp [txtSpan] at h
  | b, c :: q, r, h => by
    have e := txtSpan_cons b c q
    by_cases hc : ((c == 34 && !b) || !priC c) = true
    · rw [if_pos hc] at e
      rw [e, List.take_succ_cons, List.cons_append, txtSpan_cons, if_pos hc]
    · rw [if_neg hc] at e
      rw [e] at h ⊢
      rw [show 1 + txtSpan (c == 92 && !b) q + 1 = (txtSpan (c == 92 && !b) q + 1) + 1 by omega, List.take_succ_cons, List.cons_append, txtSpan_cons, if_neg hc,
        txtSpan_again _ q r (by rw [List.length_cons] at h; omega)]
theorem take_two (A B : List UInt8) (k : Nat) : (A ++ B).take (A.length + k) = A ++ B.take k := by
  rw [List.take_append, List.take_of_length_le (by omega), show A.length + k - A.length = k by omega]
theorem numLen_again (l r : List UInt8) (hs : Stop r) : numLen (l.take (numLen l) ++ r) = numLen l := by
  have hle := spanL_le digC l
  have hmem := spanL_mem (q := digC) l
  have hplain : numLen l = spanL digC l → numLen (l.take (numLen l) ++ r) = numLen l := fun e => by
    rw [e]
    have h1 := spanL_stop (q := digC) l r hs.dig
    have h2 : (l.take (spanL digC l) ++ r).drop (spanL digC l) = r := by
      rw [List.drop_append_of_le_length (by rw [List.length_take]; omega), List.drop_of_length_le (by rw [List.length_take]; omega), List.nil_append]
    unfold numLen
    rw [h1, h2]
    split
    · rename_i c q
      have := hs 46 rfl
      simp at this
    · rfl
  cases hd : l.drop (spanL digC l) with
  | nil => exact hplain (by unfold numLen; rw [hd])
  | cons a l1 =>
    cases l1 with
    | nil => exact hplain (by unfold numLen; rw [hd]; split <;> first | rfl | simp_all)
    | cons c q =>
      by_cases ha : a = 46 ∧ digC c = true
      · obtain ⟨rfl, hc⟩ := ha
        have hn : numLen l = spanL digC l + (1 + spanL digC (c :: q)) := by
          unfold numLen
          rw [hd]
          simp [hc]
        have hk := spanL_cons (q := digC) (r := q) hc
        have hkl := spanL_le digC (c :: q)
        have hl : l = l.take (spanL digC l) ++ 46 :: c :: q := by rw [← hd, List.take_append_drop]
        have hla : (l.take (spanL digC l)).length = spanL digC l := by rw [List.length_take]; omega
        have ht : l.take (numLen l) = l.take (spanL digC l) ++ 46 :: (c :: q).take (spanL digC (c :: q)) := by
          have h0 := take_two (l.take (spanL digC l)) (46 :: c :: q) (1 + spanL digC (c :: q))
          rw [← hl, hla, ← hn] at h0
          rw [h0, Nat.add_comm 1, List.take_succ_cons]
        have h1 : spanL digC (l.take (numLen l) ++ r) = spanL digC l := by
          rw [ht, List.append_assoc, spanL_app _ _ hmem (by intro d hd; simp at hd; subst hd; rfl), List.length_take]
          omega
        have h2 : (l.take (numLen l) ++ r).drop (spanL digC l) = 46 :: ((c :: q).take (spanL digC (c :: q)) ++ r) := by
          rw [ht, List.append_assoc, List.drop_append_of_le_length (by rw [List.length_take]; omega), List.drop_of_length_le (by rw [List.length_take]; omega)]
          rfl
        have h3 : (c :: q).take (spanL digC (c :: q)) ++ r = c :: (q.take (spanL digC q) ++ r) := by
          rw [hk, Nat.add_comm, List.take_succ_cons]
          rfl
        have h4 := spanL_stop (q := digC) (c :: q) r hs.dig
        rw [h3] at h2 h4
        rw [hn]
        conv => lhs; unfold numLen
        rw [← hn, h1, h2]
        simp only [hc, if_true, h4]
        omega
      · refine hplain ?_
        unfold numLen
        rw [hd]
        split
        · rename_i e
          simp only [List.cons.injEq] at e
          obtain ⟨e1, e2, _⟩ := e
          subst e1 e2
          rw [if_neg (fun h => ha ⟨rfl, h⟩)]
        · rfl
theorem txtW_cons (c : UInt8) (q : List UInt8) : txtW (c :: q) = if ((c :: q).drop (1 + txtSpan false q)).head? = some 34 then
    match prsL ((c :: q).take (txtSpan false q + 2)) with
    | .ok v => .ok (⟨5, q.take (txtSpan false q), v⟩, txtSpan false q + 2)
    | .error _ => .error 4
  else .error 4 := rfl
theorem take_again {l r : List UInt8} {n : Nat} (h : n ≤ l.length) : (l.take n ++ r).take n = l.take n := by
  rw [List.take_append_of_le_length (by rw [List.length_take]; omega), List.take_take, Nat.min_self]
theorem shortW_ok {w w' : Wd} {m n : Nat} (h : shortW w' m = .ok (w, n)) : m = n ∧ w' = w ∧ shortW w' m = .ok (w', m) := by
  unfold shortW at h ⊢
  split at h
  · cases h
  · rename_i hn
    injection h with h
    simp only [Prod.mk.injEq] at h
    exact ⟨h.2, h.1, by rw [if_neg hn]⟩
/-- A word that stands alone, or with a blank or a line end behind, is read again. -/
theorem wordL_again {l : List UInt8} {w : Wd} {n : Nat} (h : wordL l = .ok (w, n)) {r : List UInt8} (hs : Stop r) : wordL (l.take n ++ r) = .ok (w, n) := by
  obtain ⟨hn1, hnl⟩ := wordL_len h
  cases l with
  | nil => cases h
  | cons c q =>
    obtain ⟨m, rfl⟩ : ∃ m, n = m + 1 := ⟨n - 1, by omega⟩
    have hql : m ≤ q.length := by rw [List.length_cons] at hnl; omega
    have hL : (c :: q).take (m + 1) ++ r = c :: (q.take m ++ r) := by rw [List.take_succ_cons]; rfl
    have htk := take_again (l := c :: q) (r := r) (n := m + 1) hnl
    have htq := take_again (l := q) (r := r) (n := m) hql
    rw [hL] at htk ⊢
    unfold wordL at h ⊢
    simp only at h ⊢
    by_cases h1 : lowC c = true
    · rw [if_pos h1] at h ⊢
      obtain ⟨e1, e2, e3⟩ := shortW_ok h
      have hsp := spanL_stop (q := namC) (c :: q) r hs.nam
      rw [e1, hL] at hsp
      rw [e1] at e2 e3
      rw [hsp, htk, e3, e2]
    rw [if_neg h1] at h ⊢
    by_cases h2 : digC c = true
    · rw [if_pos h2] at h ⊢
      unfold numW at h ⊢
      have hnl2 := numLen_again (c :: q) r hs
      cases hp : prsL ((c :: q).take (numLen (c :: q))) with
      | error e => rw [hp] at h; cases h
      | ok v =>
        rw [hp] at h
        injection h with h
        simp only [Prod.mk.injEq] at h
        obtain ⟨e1, e2⟩ := h
        rw [e2] at hp e1 hnl2
        rw [hL] at hnl2
        rw [hnl2, htk, hp]
        simp only [e1]
    rw [if_neg h2] at h ⊢
    by_cases h3 : c = 34
    · rw [if_pos h3] at h ⊢
      rw [txtW_cons] at h ⊢
      by_cases hq : ((c :: q).drop (1 + txtSpan false q)).head? = some 34
      · rw [if_pos hq] at h
        cases hp : prsL ((c :: q).take (txtSpan false q + 2)) with
        | error e => rw [hp] at h; cases h
        | ok v =>
          rw [hp] at h
          injection h with h
          simp only [Prod.mk.injEq] at h
          obtain ⟨e1, e2⟩ := h
          have hm : m = txtSpan false q + 1 := by omega
          have hlt : txtSpan false q < q.length := by omega
          have hag := txtSpan_again false q r hlt
          rw [← hm] at hag
          have hdr : ((c :: (q.take m ++ r)).drop (1 + txtSpan false q)).head? = some 34 := by
            rw [Nat.add_comm, List.drop_succ_cons] at hq ⊢
            rw [List.head?_drop] at hq ⊢
            rw [List.getElem?_append_left (by rw [List.length_take]; omega), List.getElem?_take_of_lt (by omega)]
            exact hq
          have htt : (q.take m ++ r).take (txtSpan false q) = q.take (txtSpan false q) := by
            rw [List.take_append_of_le_length (by rw [List.length_take]; omega), List.take_take, Nat.min_eq_left (by omega)]
          rw [hag, if_pos hdr, show txtSpan false q + 2 = m + 1 by omega, htk, show m + 1 = txtSpan false q + 2 by omega, hp]
          simp only [htt, e1]
      · rw [if_neg hq] at h
        cases h
    rw [if_neg h3] at h ⊢
    have hmk : markB (c :: q) = true → ∀ m', m' = spanL namC q → markB (c :: (q.take m' ++ r)) = true := fun hm m' e => by
      cases q with
      | nil => cases hm
      | cons d q =>
        have hd : namC d = true := by unfold namC; rw [show lowC d = true from hm]; rfl
        rw [e, spanL_cons hd, Nat.add_comm, List.take_succ_cons]
        exact hm
    have hmn : markB (c :: r) = false := by
      cases r with
      | nil => rfl
      | cons d r =>
        rcases hs d rfl with rfl | rfl <;> rfl
    have hspq := spanL_stop (q := namC) q r hs.nam
    by_cases h4 : c = 63
    · rw [if_pos h4] at h ⊢
      by_cases hb : markB (c :: q) = true
      · rw [if_pos hb] at h
        obtain ⟨e1, e2, e3⟩ := shortW_ok h
        have hm : spanL namC q = m := by omega
        rw [if_pos (hmk hb m hm.symm)]
        rw [hm] at hspq e2 e3
        rw [hspq, htq, e3, e2, Nat.add_comm]
      · rw [if_neg hb] at h
        injection h with h
        simp only [Prod.mk.injEq] at h
        obtain ⟨e1, e2⟩ := h
        have hm : m = 0 := by omega
        subst hm
        rw [List.take_zero, List.nil_append, if_neg (by rw [hmn]; simp), e1]
    rw [if_neg h4] at h ⊢
    by_cases h5 : c = 35 ∧ markB (c :: q) = true
    · rw [if_pos h5] at h
      obtain ⟨e1, e2, e3⟩ := shortW_ok h
      have hm : spanL namC q = m := by omega
      rw [if_pos ⟨h5.1, hmk h5.2 m hm.symm⟩]
      rw [hm] at hspq e2 e3
      rw [hspq, htq, e3, e2, Nat.add_comm]
    rw [if_neg h5] at h
    unfold signW at h
    by_cases h6 : (c :: q).take 2 ∈ twos
    · rw [if_pos h6] at h
      injection h with h
      simp only [Prod.mk.injEq] at h
      obtain ⟨e1, e2⟩ := h
      have hm : m = 1 := by omega
      subst hm
      have hc : c ≠ 35 := by
        rintro rfl
        cases q with
        | nil => revert h6; decide
        | cons d q =>
          have : [(35 : UInt8), d] ∈ twos := h6
          unfold twos at this
          simp at this
      rw [if_neg (fun hh => hc hh.1)]
      unfold signW
      rw [htk, if_pos h6, e1]
    · rw [if_neg h6] at h
      split at h
      · rename_i h7
        injection h with h
        simp only [Prod.mk.injEq] at h
        obtain ⟨e1, e2⟩ := h
        have hm : m = 0 := by omega
        subst hm
        have h8 : ¬ (c :: (q.take 0 ++ r)).take 2 ∈ twos := by
          rw [List.take_zero, List.nil_append]
          cases r with
          | nil => show ¬ [c] ∈ twos; unfold twos; simp
          | cons d r =>
            show ¬ [c, d] ∈ twos
            unfold twos
            rcases hs d rfl with rfl | rfl <;> simp
        rw [if_neg (fun hh => by rw [List.take_zero, List.nil_append, hmn] at hh; cases hh.2)]
        unfold signW
        rw [if_neg h8]
        have h9 : (c :: (q.take 0 ++ r)).take 1 = (c :: q).take 1 := rfl
        rw [h9, if_pos h7, e1]
      · cases h
end Go.Proofs.YtkjndabbkfbkaaaGreatDoor
