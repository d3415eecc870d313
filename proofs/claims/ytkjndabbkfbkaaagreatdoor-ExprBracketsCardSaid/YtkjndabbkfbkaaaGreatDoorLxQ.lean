/- Words: no line end stands in one; a word spelled is its bytes. No program is named. -/
import Derived.Test.YtkjndabbkfbkaaaGreatDoorLxP
namespace Go.Proofs.YtkjndabbkfbkaaaGreatDoor
open Go Go.Lib

theorem txtSpan_mem : ∀ (b : Bool) (l : List UInt8), ∀ c ∈ l.take (txtSpan b l), priC c = true
  | b, [], c, h => by simp at h
  | b, d :: q, c, h => by
    rw [txtSpan_cons] at h
    by_cases hc : ((d == 34 && !b) || !priC d) = true
    · rw [if_pos hc] at h
      simp at h
    · rw [if_neg hc, Nat.add_comm, List.take_succ_cons, List.mem_cons] at h
      rcases h with rfl | h
      · simp only [Bool.or_eq_true, not_or, Bool.not_eq_true, Bool.not_eq_false'] at hc
        exact hc.2
      · exact txtSpan_mem _ q c h
theorem numTail_mem (n : Nat) (x : List UInt8) : ∃ k, numTail n x = n + k ∧ ∀ c ∈ x.take k, digC c = true ∨ c = 46 := by
  unfold numTail
  split
  · rename_i c r
    split
    · refine ⟨1 + spanL digC (c :: r), rfl, fun d hd => ?_⟩
      rw [Nat.add_comm, List.take_succ_cons, List.mem_cons] at hd
      rcases hd with rfl | hd
      · exact .inr rfl
      · exact .inl (spanL_mem _ d hd)
    · exact ⟨0, rfl, by simp⟩
  · exact ⟨0, rfl, by simp⟩
theorem numLen_mem (l : List UInt8) : ∀ c ∈ l.take (numLen l), digC c = true ∨ c = 46 := by
  intro c hc
  obtain ⟨k, h1, h2⟩ := numTail_mem (spanL digC l) (l.drop (spanL digC l))
  rw [numLen_eq, h1, List.take_add, List.mem_append] at hc
  rcases hc with hc | hc
  · exact .inl (spanL_mem _ c hc)
  · exact h2 c hc
theorem ne10_nam {c : UInt8} (h : namC c = true) : c ≠ 10 := by rintro rfl; cases h
theorem ne10_pri {c : UInt8} (h : priC c = true) : c ≠ 10 := by rintro rfl; cases h
theorem ne10_num {c : UInt8} (h : digC c = true ∨ c = 46) : c ≠ 10 := by
  rintro rfl
  rcases h with h | h
  · cases h
  · cases h
/-- A word as it is written. -/
def spellW (w : Wd) : List UInt8 :=
  if w.k = 2 ∨ w.k = 3 then 63 :: w.t else if w.k = 5 then 34 :: (w.t ++ [34]) else if w.k = 6 then 35 :: w.t else w.t
theorem take_head34 {q : List UInt8} {k : Nat} (h : (q.drop k).head? = some 34) : q.take (k + 1) = q.take k ++ [34] := by
  rw [List.head?_drop] at h
  rw [List.take_add_one, h]
  rfl
/-- A word spelled is its bytes, and no line end stands in it. -/
theorem wordL_spell {l : List UInt8} {w : Wd} {n : Nat} (h : wordL l = .ok (w, n)) : spellW w = l.take n ∧ ∀ c ∈ l.take n, c ≠ 10 := by
  unfold wordL at h
  cases l with
  | nil => cases h
  | cons c r =>
    simp only at h
    by_cases h1 : lowC c = true
    · rw [if_pos h1] at h
      obtain ⟨e1, e2, _⟩ := shortW_ok h
      subst e1 e2
      exact ⟨rfl, fun d hd => ne10_nam (spanL_mem _ d hd)⟩
    rw [if_neg h1] at h
    by_cases h2 : digC c = true
    · rw [if_pos h2] at h
      unfold numW at h
      cases hp : prsL ((c :: r).take (numLen (c :: r))) with
      | error e => rw [hp] at h; cases h
      | ok v =>
        rw [hp] at h
        injection h with h
        simp only [Prod.mk.injEq] at h
        obtain ⟨e1, e2⟩ := h
        subst e1 e2
        exact ⟨rfl, fun d hd => ne10_num (numLen_mem _ d hd)⟩
    rw [if_neg h2] at h
    by_cases h3 : c = 34
    · rw [if_pos h3, txtW_cons] at h
      by_cases hq : ((c :: r).drop (1 + txtSpan false r)).head? = some 34
      · rw [if_pos hq] at h
        cases hp : prsL ((c :: r).take (txtSpan false r + 2)) with
        | error e => rw [hp] at h; cases h
        | ok v =>
          rw [hp] at h
          injection h with h
          simp only [Prod.mk.injEq] at h
          obtain ⟨e1, e2⟩ := h
          subst e1 e2 h3
          rw [Nat.add_comm, List.drop_succ_cons] at hq
          have ht := take_head34 hq
          rw [List.take_succ_cons, ht]
          refine ⟨rfl, fun d hd => ?_⟩
          rw [List.mem_cons, List.mem_append] at hd
          rcases hd with rfl | hd | hd
          · decide
          · exact ne10_pri (txtSpan_mem _ _ d hd)
          · rw [List.mem_singleton] at hd
            subst hd
            decide
      · rw [if_neg hq] at h; cases h
    rw [if_neg h3] at h
    by_cases h4 : c = 63
    · rw [if_pos h4] at h
      by_cases hm : markB (c :: r) = true
      · rw [if_pos hm] at h
        obtain ⟨e1, e2, _⟩ := shortW_ok h
        subst e1 e2 h4
        rw [Nat.add_comm, List.take_succ_cons]
        refine ⟨rfl, fun d hd => ?_⟩
        rw [List.mem_cons] at hd
        rcases hd with rfl | hd
        · decide
        · exact ne10_nam (spanL_mem _ d hd)
      · rw [if_neg hm] at h
        injection h with h
        simp only [Prod.mk.injEq] at h
        obtain ⟨e1, e2⟩ := h
        subst e1 e2 h4
        refine ⟨rfl, fun d hd => ?_⟩
        simp only [List.take_succ_cons, List.take_zero, List.mem_singleton] at hd
        subst hd
        decide
    rw [if_neg h4] at h
    by_cases h5 : c = 35 ∧ markB (c :: r) = true
    · rw [if_pos h5] at h
      obtain ⟨e1, e2, _⟩ := shortW_ok h
      subst e1 e2
      obtain ⟨rfl, _⟩ := h5
      rw [Nat.add_comm, List.take_succ_cons]
      refine ⟨rfl, fun d hd => ?_⟩
      rw [List.mem_cons] at hd
      rcases hd with rfl | hd
      · decide
      · exact ne10_nam (spanL_mem _ d hd)
    rw [if_neg h5] at h
    unfold signW at h
    by_cases h6 : (c :: r).take 2 ∈ twos
    · rw [if_pos h6] at h
      injection h with h
      simp only [Prod.mk.injEq] at h
      obtain ⟨e1, e2⟩ := h
      subst e1 e2
      exact ⟨rfl, (show ∀ x ∈ twos, ∀ d ∈ x, d ≠ 10 by decide) _ h6⟩
    · rw [if_neg h6] at h
      by_cases h7 : (c :: r).take 1 ∈ ones.map fun c => [c]
      · rw [if_pos h7] at h
        injection h with h
        simp only [Prod.mk.injEq] at h
        obtain ⟨e1, e2⟩ := h
        subst e1 e2
        exact ⟨rfl, (show ∀ x ∈ ones.map (fun c => [c]), ∀ d ∈ x, d ≠ 10 by decide) _ h7⟩
      · rw [if_neg h7] at h; cases h
/-- A byte that begins a word is none of those that part words. -/
theorem wordL_err {l : List UInt8} {e : Int} (h : wordL l = .error e) : e = 4 ∨ e = 9 := by
  have hsh : ∀ {w' : Wd} {m : Nat}, shortW w' m = .error e → e = 4 := fun {w' m} hh => by
    unfold shortW at hh
    split at hh
    · injection hh with hh; exact hh.symm
    · cases hh
  unfold wordL at h
  cases l with
  | nil => injection h with h; exact .inl h.symm
  | cons c r =>
    simp only at h
    split at h
    · exact .inl (hsh h)
    split at h
    · unfold numW at h
      split at h
      · cases h
      · injection h with h
        rw [← h]
        split
        · exact .inr rfl
        · exact .inl rfl
    split at h
    · unfold txtW at h
      split at h
      · split at h
        · cases h
        · injection h with h; exact .inl h.symm
      · injection h with h; exact .inl h.symm
    split at h
    · split at h
      · exact .inl (hsh h)
      · cases h
    split at h
    · exact .inl (hsh h)
    unfold signW at h
    split at h
    · cases h
    · split at h
      · cases h
      · injection h with h; exact .inl h.symm
end Go.Proofs.YtkjndabbkfbkaaaGreatDoor
