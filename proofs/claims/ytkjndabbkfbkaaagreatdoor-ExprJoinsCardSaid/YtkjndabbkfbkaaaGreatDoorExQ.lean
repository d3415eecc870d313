/- Words that are read, by their kinds; what Read tells, in plain words. No program is named. -/
import Derived.Test.YtkjndabbkfbkaaaGreatDoorExL
import Derived.Test.YtkjndabbkfbkaaaGreatDoorLxL
namespace Go.Proofs.YtkjndabbkfbkaaaGreatDoor
open Go Go.Lib

/-- What a word that is read is like. -/
inductive Form (w : Wd) : Prop where
  | name (h : w.k = 1) (t : nameL w.t = true) (v : w.v = v0)
  | var (h : w.k = 2) (t : nameL w.t = true) (v : w.v = v0)
  | self (h : w.k = 3) (t : w.t = []) (v : w.v = v0)
  | num (h : w.k = 4) (t : prsL w.t = .ok w.v) (m : ∃ c r, w.t = c :: r ∧ digC c = true ∧ numLen w.t = w.t.length)
  | str (h : w.k = 5) (t : prsL (34 :: w.t ++ [34]) = .ok w.v) (m : ∀ c ∈ w.t, priC c = true) (s : txtSpan false (w.t ++ [34]) = w.t.length)
  | sym (h : w.k = 6) (t : nameL w.t = true) (v : w.v = (5, 0, w.t))
  | sign (h : w.k = 7) (t : w.t ∈ twos ∨ w.t ∈ ones.map fun c => [c]) (v : w.v = v0)
theorem nameL_take {c : UInt8} {r : List UInt8} (hc : lowC c = true) (h : ((c :: r).take (spanL namC (c :: r))).length ≤ 12) : nameL ((c :: r).take (spanL namC (c :: r))) = true := by
  have hn : namC c = true := by unfold namC; rw [hc]; rfl
  rw [spanL_cons hn, Nat.add_comm, List.take_succ_cons] at h ⊢
  show (decide ((r.take (spanL namC r)).length < 12) && lowC c && (r.take (spanL namC r)).all fun b => lowC b || digC b) = true
  rw [hc, Bool.and_true, Bool.and_eq_true, decide_eq_true_eq]
  exact ⟨by rw [List.length_cons] at h; omega, List.all_eq_true.2 (spanL_mem r)⟩
theorem word_form {l : List UInt8} {w : Wd} {n : Nat} (h : wordL l = .ok (w, n)) : Form w := by
  have hsh : ∀ {w' : Wd} {m : Nat}, shortW w' m = .ok (w, n) → w' = w ∧ w'.t.length ≤ 12 := fun {w' m} hh => by
    unfold shortW at hh
    split at hh
    · cases hh
    · rename_i hl
      injection hh with hh
      exact ⟨congrArg Prod.fst hh, by omega⟩
  unfold wordL at h
  cases l with
  | nil => cases h
  | cons c r =>
    simp only at h
    by_cases h1 : lowC c = true
    · rw [if_pos h1] at h
      obtain ⟨rfl, hl⟩ := hsh h
      exact .name rfl (nameL_take h1 hl) rfl
    rw [if_neg h1] at h
    by_cases h2 : digC c = true
    · rw [if_pos h2] at h
      unfold numW at h
      have hp := numLen_pos (r := r) h2
      cases hv : prsL ((c :: r).take (numLen (c :: r))) with
      | error e => rw [hv] at h; cases h
      | ok v =>
        rw [hv] at h
        injection h with h
        injection h with h _
        subst h
        refine .num rfl hv ⟨c, r.take (numLen (c :: r) - 1), ?_, h2, ?_⟩
        · show (c :: r).take _ = _
          obtain ⟨m, hm⟩ : ∃ m, numLen (c :: r) = m + 1 := ⟨numLen (c :: r) - 1, by omega⟩
          rw [hm]
          rfl
        · show numLen ((c :: r).take _) = ((c :: r).take _).length
          rw [numLen_take _ _ (Nat.le_refl _), List.length_take, Nat.min_eq_left hp.2]
    rw [if_neg h2] at h
    by_cases h3 : c = 34
    · rw [if_pos h3, txtW_cons] at h
      by_cases hq : ((c :: r).drop (1 + txtSpan false r)).head? = some 34
      · rw [if_pos hq] at h
        cases hv : prsL ((c :: r).take (txtSpan false r + 2)) with
        | error e => rw [hv] at h; cases h
        | ok v =>
          rw [hv] at h
          injection h with h
          injection h with h _
          subst h h3
          rw [Nat.add_comm, List.drop_succ_cons] at hq
          have ht := take_head34 hq
          rw [List.take_succ_cons, ht] at hv
          refine .str rfl hv (txtSpan_mem false r) ?_
          show txtSpan false (r.take (txtSpan false r) ++ [34]) = (r.take (txtSpan false r)).length
          rw [← ht, txtSpan_take false r _ (Nat.lt_succ_self _), List.length_take, Nat.min_eq_left (txtSpan_le false r)]
      · rw [if_neg hq] at h
        cases h
    rw [if_neg h3] at h
    by_cases h4 : c = 63
    · subst h4
      rw [if_pos rfl] at h
      by_cases hm : markB (63 :: r) = true
      · rw [if_pos hm] at h
        obtain ⟨rfl, hl⟩ := hsh h
        cases r with
        | nil => cases hm
        | cons d r => exact .var rfl (nameL_take hm hl) rfl
      · rw [if_neg hm] at h
        injection h with h
        injection h with h _
        subst h
        exact .self rfl rfl rfl
    rw [if_neg h4] at h
    by_cases h5 : c = 35 ∧ markB (c :: r) = true
    · rw [if_pos h5] at h
      obtain ⟨rfl, hl⟩ := hsh h
      cases r with
      | nil => cases h5.2
      | cons d r => exact .sym rfl (nameL_take h5.2 hl) rfl
    rw [if_neg h5] at h
    unfold signW at h
    split at h
    · rename_i h6
      injection h with h
      injection h with h _
      subst h
      exact .sign rfl (.inl h6) rfl
    · split at h
      · rename_i h6
        injection h with h
        injection h with h _
        subst h
        exact .sign rfl (.inr h6) rfl
      · cases h
theorem lex_form {l : List UInt8} {ts : List Tkn} (h : lexL l = .ok ts) : ∀ t ∈ ts, Form t.w := fun t ht => by
  obtain ⟨c, r, n, _, hw⟩ := LX_was _ l 1 1 ts (Nat.le_refl _) h t ht
  exact word_form hw
theorem nameL_not40 : nameL [40] = false := by decide
theorem lex_names {l : List UInt8} {ts : List Tkn} (h : lexL l = .ok ts) : ∀ t ∈ ts, t.w.k = 1 → t.w.t ≠ [40] := fun t ht hk e => by
  cases lex_form h t ht with
  | name _ ht' _ => rw [e, nameL_not40] at ht'; cases ht'
  | var h _ _ => omega
  | self h _ _ => omega
  | num h _ _ => omega
  | str h _ _ _ => omega
  | sym h _ _ => omega
  | sign h _ _ => omega
theorem LX_cols : ∀ (k : Nat) (l : List UInt8) (a b : Int) (ts : List Tkn), l.length ≤ k → 1 ≤ a → 1 ≤ b → LX l a b = .ok ts → ∀ t ∈ ts, 1 ≤ t.line ∧ t.line ≤ a + (l.length : Nat) ∧ 1 ≤ t.col ∧ t.col ≤ b + (l.length : Nat)
  | k, l, a, b, ts, hk, ha, hb, h => by
    refine lex_cases (P := fun l => l.length ≤ k → LX l a b = .ok ts → ∀ t ∈ ts, 1 ≤ t.line ∧ t.line ≤ a + (l.length : Nat) ∧ 1 ≤ t.col ∧ t.col ≤ b + (l.length : Nat)) l ?_ ?_ ?_ ?_ ?_ ?_ hk h
    · rintro rfl _ h
      rw [LX_nil] at h
      injection h with h
      subst h
      intro t ht
      cases ht
    · rintro r rfl hk h t ht
      obtain ⟨k, rfl⟩ : ∃ j, k = j + 1 := ⟨k - 1, by rw [List.length_cons] at hk; omega⟩
      rw [LX_line] at h
      have := LX_cols k r (a + 1) 1 ts (by rw [List.length_cons] at hk; omega) (by omega) (by decide) h t ht
      rw [List.length_cons]
      omega
    · rintro r rfl hk h t ht
      obtain ⟨k, rfl⟩ : ∃ j, k = j + 1 := ⟨k - 1, by rw [List.length_cons] at hk; omega⟩
      rw [LX_blank] at h
      have := LX_cols k r a (b + 1) ts (by rw [List.length_cons] at hk; omega) ha (by omega) h t ht
      rw [List.length_cons]
      omega
    · rintro r rfl hk h t ht
      obtain ⟨k, rfl⟩ : ∃ j, k = j + 1 := ⟨k - 1, by rw [List.length_cons] at hk; omega⟩
      have hp := spanL_pos (q := no10) (c := 59) (r := r) (by decide)
      have hle := spanL_le no10 (59 :: r)
      rw [LX_rem] at h
      have := LX_cols k _ a _ ts (by rw [List.length_drop]; omega) ha (by omega) h t ht
      rw [List.length_drop] at this
      omega
    · rintro c r e rfl hc hw hk h
      rw [LX_err hc hw] at h
      cases h
    · rintro c r w n rfl hc hw hk h t ht
      obtain ⟨k, rfl⟩ : ∃ j, k = j + 1 := ⟨k - 1, by rw [List.length_cons] at hk; omega⟩
      obtain ⟨hn, hnl⟩ := wordL_len hw
      rw [LX_word hc hw] at h
      cases hx : LX ((c :: r).drop n) a (b + n) with
      | error e => rw [hx] at h; cases h
      | ok us =>
        rw [hx] at h
        injection h with h
        subst h
        rw [List.mem_cons] at ht
        rcases ht with rfl | ht
        · simp only
          omega
        · have := LX_cols k _ a _ us (by rw [List.length_drop]; omega) ha (by omega) hx t ht
          rw [List.length_drop] at this
          omega
theorem lex_places {l : List UInt8} {ts : List Tkn} (h : lexL l = .ok ts) : ∀ t ∈ ts, 1 ≤ t.line ∧ t.line ≤ 1 + (l.length : Nat) ∧ 1 ≤ t.col ∧ t.col ≤ 1 + (l.length : Nat) :=
  LX_cols _ l 1 1 ts (Nat.le_refl _) (by decide) (by decide) h
theorem sum_mem : ∀ {l : List Nat} {x : Nat}, x ∈ l → x ≤ l.sum
  | y :: l, x, h => by
    rw [List.sum_cons]
    rcases List.mem_cons.1 h with rfl | h
    · omega
    · have := sum_mem h
      omega
/-- No word is longer than its text. -/
theorem lex_short {l : List UInt8} {ts : List Tkn} (h : lexL l = .ok ts) : ∀ t ∈ ts, t.w.t.length ≤ 2 * l.length := fun t ht => by
  have h1 := (LX_bytes _ l 1 1 ts (Nat.le_refl _) h).1
  have h2 : (spellW t.w).length ≤ (ts.map fun t => (spellW t.w).length).sum := sum_mem (List.mem_map.2 ⟨t, ht, rfl⟩)
  have h3 : t.w.t.length ≤ (spellW t.w).length := by
    unfold spellW
    repeat' split
    all_goals (simp; try omega)
  omega
theorem next_err {x : ExR} {g : Ex → List Tkn → ExR} {p : Int × List Tkn} (h : x.next g = .error p) : x = .error p ∨ ∃ a q, x = .ok (a, q) ∧ g a q = .error p := by
  cases x with
  | error e => exact .inl h
  | ok y => exact .inr ⟨y.1, y.2, rfl, h⟩
theorem shut_err {a : Ex} {q : List Tkn} {p : Int × List Tkn} (h : shutE a q = .error p) : p.1 = 4 := by
  unfold shutE at h
  split at h
  · cases h
  · injection h with h
    rw [← h]
theorem open_err {d : Nat} {r : List Tkn} {g : List Tkn → ExR} {p : Int × List Tkn} (h : openE d r g = .error p) : p.1 = 4 ∨ p.1 = 12 ∨ (isH [40] r = true ∧ d ≠ 12 ∧ g r.tail = .error p) := by
  unfold openE at h
  split at h
  · rename_i hp
    split at h
    · injection h with h
      rw [← h]
      exact .inr (.inl rfl)
    · rename_i hd
      exact .inr (.inr ⟨hp, hd, h⟩)
  · injection h with h
    rw [← h]
    exact .inl rfl
/-- Why there is no tree. -/
theorem exE_errs : ∀ td d r, td.ok → ∀ p, exE td d r = .error p → p.1 = 4 ∨ p.1 = 12 ∨ p.1 = 14 := by
  refine exE_ind (P := fun td d r => ∀ p, exE td d r = .error p → p.1 = 4 ∨ p.1 = 12 ∨ p.1 = 14) ?_ ?_ ?_ ?_ ?_
  · intro n d r hn h1 h2 p h
    rw [show exE (.lvl n) d r = _ from lvlE_pre hn] at h
    by_cases hp : isH (preW n) r = true
    · rw [if_pos hp] at h
      obtain ⟨t, q0, rfl⟩ := isH_ne hp
      by_cases hd : d = 12
      · rw [if_pos hd] at h
        injection h with h
        rw [← h]
        exact .inr (.inl rfl)
      · rw [if_neg hd] at h
        rcases next_err h with h3 | ⟨a, q, _, h3⟩
        · exact h1 t q0 rfl hp hd p h3
        · cases h3
    · rw [if_neg hp] at h
      exact h2 (by simpa using hp) p h
  · intro d r h1 h2 p h
    rw [show exE (.lvl 7) d r = _ from lvlE_atom d r] at h
    cases r with
    | nil =>
      injection h with h
      rw [← h]
      exact .inl rfl
    | cons t r =>
      simp only at h
      cases hl : leafH t with
      | some x => rw [hl] at h; cases h
      | none =>
        cases hc : callH t with
        | some c =>
          rw [hl, hc] at h
          rcases open_err h with h3 | h3 | ⟨h3, h4, h5⟩
          · exact .inl h3
          · exact .inr (.inl h3)
          · obtain ⟨t', q', rfl⟩ := isH_ne h3
            exact h1 t t' q' c rfl hl hc h3 h4 p h5
        | none =>
          rw [hl, hc] at h
          rcases open_err h with h3 | h3 | ⟨h3, h4, h5⟩
          · exact .inl h3
          · exact .inr (.inl h3)
          · rcases next_err h5 with h6 | ⟨a, q, _, h6⟩
            · exact h2 t r rfl hl hc h3 h4 p h6
            · exact .inl (shut_err h6)
  · intro n d r h5 hn2 h1 h2 p h
    rw [show exE (.lvl n) d r = _ from lvlE_row h5 hn2] at h
    rcases next_err h with h3 | ⟨a, q, h3, h4⟩
    · exact h1 p h3
    · exact h2 a q h3 p h4
  · intro n b d r h1 p h
    rw [show exE (.row n b) d r = _ from rowE_eq n b d r] at h
    by_cases hz : infixH r (opsL n) = 0
    · rw [if_pos hz] at h
      cases h
    · rw [if_neg hz] at h
      obtain ⟨t, r', rfl⟩ := infixH_ne hz
      obtain ⟨h5, hn2⟩ := infix_le hz
      obtain ⟨k1, k2⟩ := h1 t r' rfl hz h5 hn2
      rcases next_err h with h3 | ⟨a, q, h3, h4⟩
      · exact k1 p h3
      · by_cases h3n : n = 3
        · rw [if_pos h3n] at h4
          cases h4
        · rw [if_neg h3n] at h4
          exact k2 a q h3 p h4
  · intro c ks d r h1 h2 p h
    rw [show exE (.args c ks) d r = _ from argsE_eq c ks d r] at h
    rcases next_err h with h3 | ⟨a, q, h3, h4⟩
    · exact h1 p h3
    · by_cases hm : (isH [44] q && decide (ks.length + 1 = c.most) || isH [41] q && decide (ks.length + 1 < c.least)) = true
      · rw [if_pos hm] at h4
        injection h4 with h4
        rw [← h4]
        exact .inr (.inr rfl)
      · rw [if_neg hm] at h4
        by_cases hcm : isH [44] q = true
        · rw [if_pos hcm] at h4
          obtain ⟨t', q', rfl⟩ := isH_ne hcm
          exact h2 a t' q' h3 hcm p h4
        · rw [if_neg hcm] at h4
          exact .inl (shut_err h4)
/-- The place behind words. -/
def behindL (ts : List Tkn) : Int × Int := match ts.getLast? with
  | none => (1, 1)
  | some t => (t.line, t.col + t.w.t.length + if t.w.k = 2 ∨ t.w.k = 3 ∨ t.w.k = 6 then 1 else if t.w.k = 5 then 2 else 0)
/-- Where some words begin; there are none: behind all. -/
def placeE (ts q : List Tkn) : Int × Int := match q with
  | t :: _ => (t.line, t.col)
  | [] => behindL ts
/-- The tree of a text, or where, and why, it has none. -/
def readL (l : List UInt8) : Except ((Int × Int) × Int) Ex := match lexL l with
  | .error (a, b, e) => .error ((a, b), e)
  | .ok ts => match lvlE 0 0 ts with
    | .error (e, q) => .error (placeE ts q, e)
    | .ok (a, q) => if 60 < a.size then .error (placeE ts ts, 7) else if q = [] then .ok a else .error (placeE ts q, 4)
end Go.Proofs.YtkjndabbkfbkaaaGreatDoor
