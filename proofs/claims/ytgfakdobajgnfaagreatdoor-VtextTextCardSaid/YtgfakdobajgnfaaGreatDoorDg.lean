/- Digits to the base 10000, in plain words. No program is named. -/
namespace Go.Proofs.YtgfakdobajgnfaaGreatDoor

/-- What digits say, the lowest one first. -/
def nv : List Nat → Nat
  | [] => 0
  | d :: l => d + 10000 * nv l
def okD (l : List Nat) : Prop := ∀ d ∈ l, d < 10000
/-- A number's digits. -/
def dg (n : Nat) : List Nat := if h : n = 0 then [] else n % 10000 :: dg (n / 10000)
termination_by n
decreasing_by omega
theorem dg_zero : dg 0 = [] := by rw [dg, dif_pos rfl]
theorem dg_pos {n : Nat} (h : n ≠ 0) : dg n = n % 10000 :: dg (n / 10000) := by rw [dg, dif_neg h]
theorem nv_dg : ∀ n, nv (dg n) = n := fun n => by
  induction n using Nat.strongRecOn with
  | _ n ih =>
    by_cases h : n = 0
    · subst h; rw [dg_zero]; rfl
    · rw [dg_pos h, nv, ih (n / 10000) (by omega)]
      omega
theorem ok_dg : ∀ n, okD (dg n) := fun n => by
  induction n using Nat.strongRecOn with
  | _ n ih =>
    by_cases h : n = 0
    · subst h; rw [dg_zero]; intro d hd; cases hd
    · rw [dg_pos h]
      intro d hd
      rcases List.mem_cons.1 hd with rfl | hd
      · omega
      · exact ih (n / 10000) (by omega) d hd
theorem nv_app (l m : List Nat) : nv (l ++ m) = nv l + 10000 ^ l.length * nv m := by
  induction l with
  | nil => simp [nv]
  | cons d l ih =>
    rw [List.cons_append, nv, nv, ih, List.length_cons, Nat.pow_succ, Nat.mul_add]
    rw [show 10000 ^ l.length * 10000 * nv m = 10000 * (10000 ^ l.length * nv m) by rw [Nat.mul_comm (10000 ^ l.length) 10000, Nat.mul_assoc]]
    omega
theorem nv_snoc (l : List Nat) (d : Nat) : nv (l ++ [d]) = nv l + 10000 ^ l.length * d := by
  rw [nv_app]
  simp [nv]
theorem nv_take_succ (l : List Nat) (k : Nat) (h : k < l.length) : nv (l.take (k + 1)) = nv (l.take k) + 10000 ^ k * l[k] := by
  rw [List.take_succ_eq_append_getElem h, nv_snoc, List.length_take, Nat.min_eq_left (by omega)]
theorem nv_lt : ∀ (l : List Nat), okD l → nv l < 10000 ^ l.length
  | [], _ => by simp [nv]
  | d :: l, h => by
    have h1 := nv_lt l fun x hx => h x (List.mem_cons_of_mem _ hx)
    have h2 := h d List.mem_cons_self
    rw [nv, List.length_cons, Nat.pow_succ]
    omega
theorem ok_take {l : List Nat} (h : okD l) (k : Nat) : okD (l.take k) := fun d hd => h d (List.mem_of_mem_take hd)
theorem ok_snoc {l : List Nat} {d : Nat} (h : okD l) (hd : d < 10000) : okD (l ++ [d]) := fun x hx => by
  rcases List.mem_append.1 hx with hx | hx
  · exact h x hx
  · rw [List.mem_singleton.1 hx]; exact hd
/-- Digits without noughts at the end are their number's. -/
theorem dg_nv : ∀ (l : List Nat), okD l → (∀ h : l ≠ [], l.getLast h ≠ 0) → dg (nv l) = l
  | [], _, _ => dg_zero
  | d :: l, ho, hl => by
    have hd := ho d List.mem_cons_self
    have ho' : okD l := fun x hx => ho x (List.mem_cons_of_mem _ hx)
    have hl' : ∀ h : l ≠ [], l.getLast h ≠ 0 := fun h => by
      have := hl (by simp)
      rwa [List.getLast_cons h] at this
    have hne : nv (d :: l) ≠ 0 := by
      rw [nv]
      intro h0
      cases l with
      | nil => have := hl (by simp); simp at this; omega
      | cons e m =>
        have h1 : nv (e :: m) = 0 := by omega
        have h2 := dg_nv (e :: m) ho' hl'
        rw [h1, dg_zero] at h2
        cases h2
    rw [dg_pos hne, nv, show (d + 10000 * nv l) % 10000 = d by omega, show (d + 10000 * nv l) / 10000 = nv l by omega, dg_nv l ho' hl']
/-- How many digits. -/
def lenD (n : Nat) : Nat := (dg n).length
theorem lenD_le {n k : Nat} (h : n < 10000 ^ k) : lenD n ≤ k := by
  unfold lenD
  induction k generalizing n with
  | zero =>
    have : n = 0 := by simpa using h
    subst this
    rw [dg_zero]
    simp
  | succ k ih =>
    by_cases h0 : n = 0
    · subst h0; rw [dg_zero]; simp
    · rw [dg_pos h0, List.length_cons]
      have : n / 10000 < 10000 ^ k := by rw [Nat.pow_succ] at h; omega
      have := ih this
      omega
theorem lt_lenD (n : Nat) : n < 10000 ^ lenD n := by
  have := nv_lt (dg n) (ok_dg n)
  rwa [nv_dg] at this
theorem lenD_mono {n m : Nat} (h : n ≤ m) : lenD n ≤ lenD m := lenD_le (Nat.lt_of_le_of_lt h (lt_lenD m))
theorem lenD_of_ok {l : List Nat} (h : okD l) : lenD (nv l) ≤ l.length := lenD_le (nv_lt l h)
theorem lenD_add (n m : Nat) : lenD (n + m) ≤ max (lenD n) (lenD m) + 1 := by
  refine lenD_le ?_
  have h1 := lt_lenD n
  have h2 := lt_lenD m
  have h3 : 10000 ^ lenD n ≤ 10000 ^ max (lenD n) (lenD m) := Nat.pow_le_pow_right (by decide) (by omega)
  have h4 : 10000 ^ lenD m ≤ 10000 ^ max (lenD n) (lenD m) := Nat.pow_le_pow_right (by decide) (by omega)
  rw [Nat.pow_succ]
  omega
theorem lenD_mul (n m : Nat) : lenD (n * m) ≤ lenD n + lenD m := by
  refine lenD_le ?_
  have h1 := lt_lenD n
  have h2 := lt_lenD m
  rw [Nat.pow_add]
  by_cases h0 : m = 0
  · subst h0
    rw [Nat.mul_zero]
    exact Nat.mul_pos (Nat.pow_pos (by decide)) (Nat.pow_pos (by decide))
  · calc n * m < 10000 ^ lenD n * m := Nat.mul_lt_mul_of_pos_right h1 (by omega)
      _ ≤ 10000 ^ lenD n * 10000 ^ lenD m := Nat.mul_le_mul_left _ (by omega)
theorem lenD_small {n : Nat} (h : n < 10000) : lenD n ≤ 1 := lenD_le (by simpa using h)
/-- Which of two numbers is less: by how many digits there are, then from the last ones on. -/
theorem lt_of_len {n m : Nat} (h : lenD n < lenD m) : n < m := by
  refine Nat.lt_of_not_le fun hh => ?_
  have := lenD_mono hh
  omega
/-- Two rows of the same length, compared from the last one on. -/
theorem nv_split (l : List Nat) (k : Nat) : nv l = nv (l.take k) + 10000 ^ (l.take k).length * nv (l.drop k) := by
  have := nv_app (l.take k) (l.drop k)
  rwa [List.take_append_drop] at this
theorem nv_drop_cons {l : List Nat} {k : Nat} (h : k < l.length) : nv (l.drop k) = l[k] + 10000 * nv (l.drop (k + 1)) := by
  rw [List.drop_eq_getElem_cons h, nv]
theorem cmp_at {l m : List Nat} (hl : okD l) (hn : l.length = m.length) {k : Nat} (hk : k < l.length) (hk2 : k < m.length) (hd : l.drop (k + 1) = m.drop (k + 1)) (h : l[k] < m[k]) : nv l < nv m := by
  have h1 := nv_split l k
  have h2 := nv_split m k
  rw [List.length_take, Nat.min_eq_left (by omega)] at h1 h2
  rw [nv_drop_cons hk] at h1
  rw [nv_drop_cons hk2, ← hd] at h2
  have h3 := nv_lt (l.take k) (ok_take hl k)
  rw [List.length_take, Nat.min_eq_left (by omega)] at h3
  obtain ⟨x, hx⟩ : ∃ x, nv (l.drop (k + 1)) = x := ⟨_, rfl⟩
  obtain ⟨p, hp⟩ : ∃ p, 10000 ^ k = p := ⟨_, rfl⟩
  rw [hx, hp] at h1 h2
  rw [hp] at h3
  have h4 : p * (l[k] + 10000 * x) + p ≤ p * (m[k] + 10000 * x) := by
    rw [← Nat.mul_succ]
    exact Nat.mul_le_mul_left _ (by omega)
  omega
end Go.Proofs.YtgfakdobajgnfaaGreatDoor
