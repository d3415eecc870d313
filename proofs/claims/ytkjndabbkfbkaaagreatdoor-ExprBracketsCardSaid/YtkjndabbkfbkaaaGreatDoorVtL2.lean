/- Values and their texts: a blank ahead, kinds by texts; no program is named. -/
import Derived.Test.YtkjndabbkfbkaaaGreatDoorVtL
namespace Go.Proofs.YtkjndabbkfbkaaaGreatDoor
open Go Go.Lib

/-! ### a blank or a nought ahead -/
theorem numP_blank (l : List UInt8) : numP (32 :: l) = .error 4 := by
  have h1 : ¬ ((32 : UInt8) :: l).head? = some 45 := by simp
  have h2 : digL (cut (32 :: l) [46]).1 = false := by
    rcases split_one 46 (32 :: l) with hn | ⟨a, r, e, hn⟩
    · rw [cut_one_none hn]; rfl
    · rw [e, cut_one_some a r hn]
      cases a with
      | nil => simp at e
      | cons b a =>
        rw [List.cons_append] at e
        injection e with e1 e2
        subst e1
        rfl
  unfold numP
  simp only [if_neg h1, h2, Bool.not_false, Bool.true_or, if_true]
theorem numP_nought {l : List UInt8} (h1 : l ≠ []) (h2 : l.head? ≠ some 46) : numP (48 :: l) = .error 4 := by
  have h0 : ¬ ((48 : UInt8) :: l).head? = some 45 := by simp
  obtain ⟨b, r, rfl⟩ := List.exists_cons_of_ne_nil h1
  have hb : b ≠ 46 := by simpa using h2
  have hz : (decide (1 < (cut (48 :: b :: r) [46]).1.length) && (cut (48 :: b :: r) [46]).1.head? == some 48) = true := by
    rcases split_one 46 (48 :: b :: r) with hn | ⟨a, q, e, hn⟩
    · rw [cut_one_none hn]; simp
    · rw [e, cut_one_some a q hn]
      match a, e with
      | [], e => simp at e
      | [x], e =>
        simp only [List.cons_append, List.nil_append, List.cons.injEq] at e
        exact absurd e.2.1 hb
      | x :: y :: a, e =>
        simp only [List.cons_append, List.cons.injEq] at e
        rw [← e.1]
        simp
  unfold numP
  simp only [if_neg h0, hz, Bool.or_true, Bool.true_or, if_true]
theorem numP_point (l : List UInt8) : numP (46 :: l) = .error 4 := by
  have h1 : ¬ ((46 : UInt8) :: l).head? = some 45 := by simp
  have h2 := cut_one_some (c := 46) [] l (by simp)
  rw [List.nil_append] at h2
  unfold numP
  simp only [if_neg h1, h2]
  rfl
theorem prsL_num_err {c : UInt8} {l : List UInt8} (h : c ≠ 34 ∧ c ≠ 35 ∧ c ≠ 116 ∧ c ≠ 102 ∧ c ≠ 110) (he : numP (c :: l) = .error 4) : ∃ e, prsL (c :: l) = .error e ∧ (e = 3 ∨ e = 4) := by
  unfold prsL
  by_cases h4 : 402 < (c :: l).length
  · exact ⟨3, by rw [if_pos h4], .inl rfl⟩
  · refine ⟨4, ?_, .inr rfl⟩
    rw [if_neg h4, if_neg (by simp), readP_num h, he]
    rfl
theorem prsL_blank (l : List UInt8) : ∃ e, prsL (32 :: l) = .error e ∧ (e = 3 ∨ e = 4) := prsL_num_err (by decide) (numP_blank l)
theorem prsL_nought {l : List UInt8} {v : Int × Int × List UInt8} (h : prsL l = .ok v) : ∃ e, prsL (48 :: l) = .error e ∧ (e = 3 ∨ e = 4) := by
  obtain ⟨_, _, hl, _⟩ := prsL_ok (k := v.1) (n := v.2.1) (s := v.2.2) h
  refine prsL_num_err (by decide) (numP_nought hl fun e => ?_)
  obtain ⟨b, r, rfl⟩ := List.exists_cons_of_ne_nil hl
  simp only [List.head?_cons, Option.some.injEq] at e
  subst e
  obtain ⟨e, he, _⟩ := prsL_num_err (c := 46) (l := r) (by decide) (numP_point r)
  rw [h] at he
  cases he
theorem numP_errs {l : List UInt8} {q : Int} (h : numP l = .error q) : q = 4 ∨ q = 9 := by
  unfold numP at h
  simp only at h
  generalize cut (if l.head? = some 45 then l.tail else l) [46] = c at h
  by_cases hc : ((!digL c.1 || (decide (1 < c.1.length) && c.1.head? == some 48)) || (c.2.2 && (!digL c.2.1 || decide (4 < c.2.1.length)))) = true
  · rw [if_pos hc] at h
    injection h with h
    exact .inl h.symm
  · rw [if_neg hc] at h
    generalize parseIntB 64 _ = z at h
    cases z
    case ok n => cases h
    all_goals (injection h with h; exact .inr h.symm)
/-- The errors. -/
theorem prsL_err {l : List UInt8} {e : Int} (h : prsL l = .error e) : e = 3 ∨ e = 4 ∨ e = 9 := by
  unfold prsL at h
  by_cases h4 : 402 < l.length
  · rw [if_pos h4] at h; injection h with h; exact .inl h.symm
  rw [if_neg h4] at h
  by_cases hl : l = []
  · rw [if_pos hl] at h; injection h with h; exact .inr (.inl h.symm)
  rw [if_neg hl] at h
  cases hr : readP l with
  | ok v =>
    rw [hr] at h
    simp only at h
    split at h
    · cases h
    · injection h with h; exact .inr (.inl h.symm)
  | error q =>
    rw [hr] at h
    injection h with h
    subst h
    have hnum : ∀ x, numP x = .error q → q = 4 ∨ q = 9 := fun x hx => numP_errs hx
    unfold readP at hr
    split at hr
    · cases hr
    · cases hr
    · split at hr
      · cases hr
      · injection hr with hr; exact .inr (.inl hr.symm)
    · split at hr
      · cases hr
      · injection hr with hr; exact .inr (.inl hr.symm)
    · split at hr
      · cases hr
      · injection hr with hr; exact .inr (.inl hr.symm)
    · cases hq : numP l with
      | ok p => rw [hq] at hr; cases hr
      | error z =>
        rw [hq] at hr
        injection hr with hr
        subst hr
        exact .inr (hnum l hq)
/-! ### a value's kind by its text -/
def kindL (l : List UInt8) : Int :=
  if l.head? = some 34 then 3 else if l.head? = some 35 then 5 else if l = [110, 117, 108, 108] then 0 else if l = [116, 114, 117, 101] ∨ l = [102, 97, 108, 115, 101] then 4 else if contains l [46] = true then 2 else 1
theorem itoa_nopoint (n : Int) : contains (itoa n) [46] = false := by
  have : (46 : UInt8) ∉ itoa n := by
    unfold itoa
    split
    · rw [List.mem_cons]
      rintro (q | q)
      · revert q; decide
      · exact not_dig (decDigits_all _) rfl q
    · exact not_dig (decDigits_all _) rfl
  unfold contains
  rw [index_one_none this]
  rfl
theorem decT_point (n : Int) : contains (decT n) [46] = true := by
  have hd := pad5_dig (decDigits_all n.natAbs)
  unfold decT
  generalize pad5 (decDigits n.natAbs) = p at hd ⊢
  have hw : (p.take (p.length - 4)).all digC = true := List.all_eq_true.2 fun c hc => List.all_eq_true.1 hd c (List.mem_of_mem_take hc)
  have hn : (46 : UInt8) ∉ (if n < 0 then [(45 : UInt8)] else []) ++ p.take (p.length - 4) := by
    rw [List.mem_append]
    rintro (q | q)
    · split at q
      · simp at q
      · simp at q
    · exact not_dig hw rfl q
  rw [← List.append_assoc]
  unfold contains
  rw [index_one_some _ _ hn, decide_eq_true_eq]
  omega
theorem kind_num {c : UInt8} {l q : List UInt8} (e : l = c :: q) (hc : c = 45 ∨ digC c = true) : kindL l = if contains l [46] = true then 2 else 1 := by
  obtain ⟨h1, h2, h3, h4, h5⟩ := num_heads hc
  subst e
  unfold kindL
  rw [if_neg (by simpa using h1), if_neg (by simpa using h2), if_neg (by simp [h5]), if_neg (by simp [h3, h4])]
theorem kindL_txt {k n : Int} {s : List UInt8} (h : mayL k n s = true) : kindL (txtL k n s) = k := by
  rcases mayL_cases h with ⟨rfl, rfl, rfl⟩ | ⟨rfl, rfl⟩ | ⟨rfl, rfl⟩ | ⟨rfl, rfl, hl, hp⟩ | ⟨rfl, rfl, hn⟩ | ⟨rfl, rfl, hn⟩
  · rfl
  · show kindL (itoa n) = 1
    obtain ⟨c, q, e, hc⟩ := itoa_head n
    rw [kind_num e hc, itoa_nopoint]
    rfl
  · show kindL (decT n) = 2
    obtain ⟨c, q, e, hc⟩ := decT_head n
    rw [kind_num e hc, decT_point]
    rfl
  · rfl
  · rcases hn with rfl | rfl
    · rfl
    · rfl
  · rfl
/-- Two values have one text just if they are the same. -/
theorem txtL_inj {k n k' n' : Int} {s s' : List UInt8} (h : mayL k n s = true) (h0 : -9223372036854775808 ≤ n) (h1 : n ≤ 9223372036854775807) (h' : mayL k' n' s' = true) (h0' : -9223372036854775808 ≤ n') (h1' : n' ≤ 9223372036854775807)
    (e : txtL k n s = txtL k' n' s') : k = k' ∧ n = n' ∧ s = s' := by
  have e1 := prsL_txt h h0 h1
  rw [e, prsL_txt h' h0' h1'] at e1
  injection e1 with e1
  simp only [Prod.mk.injEq] at e1
  exact ⟨e1.1.symm, e1.2.1.symm, e1.2.2.symm⟩
end Go.Proofs.YtkjndabbkfbkaaaGreatDoor
