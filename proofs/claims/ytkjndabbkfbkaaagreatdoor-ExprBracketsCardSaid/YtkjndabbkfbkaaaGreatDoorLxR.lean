/- All words of a source: joins, cuts, words told again; places rise. No program is named. -/
import Derived.Test.YtkjndabbkfbkaaaGreatDoorLxQ
namespace Go.Proofs.YtkjndabbkfbkaaaGreatDoor
open Go Go.Lib

/-- All words of a text that begins at a place. -/
def LX (l : List UInt8) (a b : Int) : Except (Int × Int × Int) (List Tkn) := lexGo l.length l a b
theorem lexL_LX (l : List UInt8) : lexL l = LX l 1 1 := rfl
/-- A word, and what stands behind it. -/
def consW (t : Tkn) : Except (Int × Int × Int) (List Tkn) → Except (Int × Int × Int) (List Tkn)
  | .error e => .error e
  | .ok ts => .ok (t :: ts)
theorem LX_nil (a b : Int) : LX [] a b = .ok [] := rfl
theorem LX_line (r : List UInt8) (a b : Int) : LX (10 :: r) a b = LX r (a + 1) 1 := rfl
theorem LX_blank (r : List UInt8) (a b : Int) : LX (32 :: r) a b = LX r a (b + 1) := rfl
def no10 (c : UInt8) : Bool := c != 10
theorem LX_rem (r : List UInt8) (a b : Int) : LX (59 :: r) a b = LX ((59 :: r).drop (spanL no10 (59 :: r))) a (b + spanL no10 (59 :: r)) := by
  have hp := spanL_pos (q := no10) (c := 59) (r := r) (by decide)
  have e : LX (59 :: r) a b = lexGo r.length ((59 :: r).drop (spanL no10 (59 :: r))) a (b + spanL no10 (59 :: r)) := rfl
  rw [e]
  exact lexGo_fuel _ _ _ _ _ (by rw [List.length_drop, List.length_cons]; omega) (Nat.le_refl _)
/-- A byte that begins a word, or what is none. -/
def begC (c : UInt8) : Prop := c ≠ 10 ∧ c ≠ 59 ∧ c ≠ 32
theorem LX_err {c : UInt8} {r : List UInt8} (hc : begC c) {e : Int} (h : wordL (c :: r) = .error e) (a b : Int) : LX (c :: r) a b = .error (a, b, e) := by
  unfold LX
  rw [List.length_cons]
  unfold lexGo
  simp only
  rw [if_neg hc.1, if_neg hc.2.1, if_neg hc.2.2, h]
theorem LX_word {c : UInt8} {r : List UInt8} (hc : begC c) {w : Wd} {n : Nat} (h : wordL (c :: r) = .ok (w, n)) (a b : Int) : LX (c :: r) a b = consW ⟨w, a, b⟩ (LX ((c :: r).drop n) a (b + n)) := by
  obtain ⟨hn, _⟩ := wordL_len h
  have e : LX ((c :: r).drop n) a (b + n) = lexGo r.length ((c :: r).drop n) a (b + n) := lexGo_fuel _ _ _ _ _ (Nat.le_refl _) (by rw [List.length_drop, List.length_cons]; omega)
  rw [e]
  unfold LX
  rw [List.length_cons]
  conv => lhs; unfold lexGo
  simp only
  rw [if_neg hc.1, if_neg hc.2.1, if_neg hc.2.2, h]
  simp only
  cases lexGo r.length ((c :: r).drop n) a (b + n) <;> rfl
/-- The ways that a text begins. -/
theorem lex_cases {P : List UInt8 → Prop} (l : List UInt8) (h0 : l = [] → P l) (h1 : ∀ r, l = 10 :: r → P l) (h2 : ∀ r, l = 32 :: r → P l) (h3 : ∀ r, l = 59 :: r → P l)
    (h4 : ∀ c r e, l = c :: r → begC c → wordL l = .error e → P l) (h5 : ∀ c r w n, l = c :: r → begC c → wordL l = .ok (w, n) → P l) : P l := by
  cases l with
  | nil => exact h0 rfl
  | cons c r =>
    by_cases e1 : c = 10
    · subst e1; exact h1 r rfl
    by_cases e2 : c = 32
    · subst e2; exact h2 r rfl
    by_cases e3 : c = 59
    · subst e3; exact h3 r rfl
    cases hw : wordL (c :: r) with
    | error e => exact h4 c r e rfl ⟨e1, e3, e2⟩ hw
    | ok p => obtain ⟨w, n⟩ := p; exact h5 c r w n rfl ⟨e1, e3, e2⟩ hw
/-- Further down. -/
def Tkn.down (d : Int) (t : Tkn) : Tkn := ⟨t.w, t.line + d, t.col⟩
def downE (d : Int) : Except (Int × Int × Int) (List Tkn) → Except (Int × Int × Int) (List Tkn)
  | .error e => .error (e.1 + d, e.2.1, e.2.2)
  | .ok ts => .ok (ts.map (Tkn.down d))
theorem downE_cons (d : Int) (t : Tkn) (x : Except (Int × Int × Int) (List Tkn)) : downE d (consW t x) = consW (t.down d) (downE d x) := by cases x <;> rfl
theorem LX_down (d : Int) : ∀ (k : Nat) (l : List UInt8) (a b : Int), l.length ≤ k → LX l (a + d) b = downE d (LX l a b)
  | k, l, a, b, hk => by
    refine lex_cases (P := fun l => l.length ≤ k → LX l (a + d) b = downE d (LX l a b)) l ?_ ?_ ?_ ?_ ?_ ?_ hk
    · rintro rfl _; rfl
    · rintro r rfl hk
      obtain ⟨k, rfl⟩ : ∃ j, k = j + 1 := ⟨k - 1, by rw [List.length_cons] at hk; omega⟩
      rw [LX_line, LX_line, ← LX_down d k r (a + 1) 1 (by rw [List.length_cons] at hk; omega), show a + 1 + d = a + d + 1 by omega]
    · rintro r rfl hk
      obtain ⟨k, rfl⟩ : ∃ j, k = j + 1 := ⟨k - 1, by rw [List.length_cons] at hk; omega⟩
      rw [LX_blank, LX_blank, ← LX_down d k r a (b + 1) (by rw [List.length_cons] at hk; omega)]
    · rintro r rfl hk
      obtain ⟨k, rfl⟩ : ∃ j, k = j + 1 := ⟨k - 1, by rw [List.length_cons] at hk; omega⟩
      have hp := spanL_pos (q := no10) (c := 59) (r := r) (by decide)
      rw [LX_rem, LX_rem, ← LX_down d k _ a _ (by rw [List.length_drop]; omega)]
    · rintro c r e rfl hc hw hk
      rw [LX_err hc hw, LX_err hc hw]
      rfl
    · rintro c r w n rfl hc hw hk
      obtain ⟨k, rfl⟩ : ∃ j, k = j + 1 := ⟨k - 1, by rw [List.length_cons] at hk; omega⟩
      obtain ⟨hn, _⟩ := wordL_len hw
      rw [LX_word hc hw, LX_word hc hw, downE_cons, ← LX_down d k _ a _ (by rw [List.length_drop]; omega)]
      rfl
/-! ### two sources -/
def joinE (x : Except (Int × Int × Int) (List Tkn)) (y : Except (Int × Int × Int) (List Tkn)) : Except (Int × Int × Int) (List Tkn) :=
  match x with
  | .error e => .error e
  | .ok ts => match y with
    | .error e => .error e
    | .ok us => .ok (ts ++ us)
theorem joinE_cons (t : Tkn) (x y : Except (Int × Int × Int) (List Tkn)) : joinE (consW t x) y = consW t (joinE x y) := by cases x <;> cases y <;> rfl
theorem count_skip {l : List UInt8} {n : Nat} (h : ∀ c ∈ l.take n, c ≠ 10) : (l.drop n).count 10 = l.count 10 := by
  conv => rhs; rw [← List.take_append_drop n l, List.count_append]
  rw [List.count_eq_zero.2 fun hm => h 10 hm rfl, Nat.zero_add]
theorem no10_mem {l : List UInt8} : ∀ c ∈ l.take (spanL no10 l), c ≠ 10 := fun c hc => by
  have := spanL_mem (q := no10) l c hc
  unfold no10 at this
  simpa using this
theorem LX_join (r : List UInt8) : ∀ (k : Nat) (l : List UInt8) (a b : Int), l.length ≤ k → LX (l ++ 10 :: r) a b = joinE (LX l a b) (LX r (a + (l.count 10 : Nat) + 1) 1)
  | k, l, a, b, hk => by
    refine lex_cases (P := fun l => l.length ≤ k → LX (l ++ 10 :: r) a b = joinE (LX l a b) (LX r (a + (l.count 10 : Nat) + 1) 1)) l ?_ ?_ ?_ ?_ ?_ ?_ hk
    · rintro rfl _
      rw [List.nil_append, LX_line, LX_nil, List.count_nil, show a + ((0 : Nat) : Int) + 1 = a + 1 by omega]
      cases LX r (a + 1) 1 <;> rfl
    · rintro q rfl hk
      obtain ⟨k, rfl⟩ : ∃ j, k = j + 1 := ⟨k - 1, by rw [List.length_cons] at hk; omega⟩
      rw [List.cons_append, LX_line, LX_line, LX_join r k q (a + 1) 1 (by rw [List.length_cons] at hk; omega), List.count_cons_self]
      rw [show a + 1 + ((q.count 10 : Nat) : Int) + 1 = a + ((q.count 10 + 1 : Nat) : Int) + 1 by omega]
    · rintro q rfl hk
      obtain ⟨k, rfl⟩ : ∃ j, k = j + 1 := ⟨k - 1, by rw [List.length_cons] at hk; omega⟩
      rw [List.cons_append, LX_blank, LX_blank, LX_join r k q a (b + 1) (by rw [List.length_cons] at hk; omega), List.count_cons_of_ne (by decide)]
    · rintro q rfl hk
      obtain ⟨k, rfl⟩ : ∃ j, k = j + 1 := ⟨k - 1, by rw [List.length_cons] at hk; omega⟩
      have hp := spanL_pos (q := no10) (c := 59) (r := q) (by decide)
      have hle := spanL_le no10 (59 :: q)
      have hb := spanL_behind (q := no10) (59 :: q) (10 :: r) (by simp [no10])
      rw [List.cons_append] at hb ⊢
      rw [LX_rem, hb, LX_rem, ← List.cons_append, List.drop_append_of_le_length hle, LX_join r k _ a _ (by rw [List.length_drop]; omega), count_skip no10_mem]
    · rintro c q e rfl hc hw hk
      have hb := wordL_behind (c :: q) r (by simp)
      rw [hw] at hb
      rw [LX_err hc hw]
      rw [List.cons_append] at hb ⊢
      rw [LX_err hc hb]
      rfl
    · rintro c q w n rfl hc hw hk
      obtain ⟨k, rfl⟩ : ∃ j, k = j + 1 := ⟨k - 1, by rw [List.length_cons] at hk; omega⟩
      obtain ⟨hn, hnl⟩ := wordL_len hw
      obtain ⟨_, h10⟩ := wordL_spell hw
      have hb := wordL_behind (c :: q) r (by simp)
      rw [hw] at hb
      rw [LX_word hc hw, joinE_cons, ← count_skip h10, ← LX_join r k _ a _ (by rw [List.length_drop]; omega), ← List.drop_append_of_le_length hnl]
      rw [List.cons_append] at hb ⊢
      rw [LX_word hc hb]
/-- Two sources with a line end between. -/
theorem lexL_join (l r : List UInt8) : lexL (l ++ 10 :: r) = joinE (lexL l) (downE (1 + (l.count 10 : Nat)) (lexL r)) := by
  rw [lexL_LX, lexL_LX, lexL_LX, LX_join r _ l 1 1 (Nat.le_refl _), ← LX_down _ _ r 1 1 (Nat.le_refl _)]
  rw [show (1 : Int) + ((l.count 10 : Nat) : Int) + 1 = 1 + (1 + ((l.count 10 : Nat) : Int)) by omega]
/-! ### places -/
/-- Where one is behind some bytes. -/
def adv : List UInt8 → Int → Int → Int × Int
  | [], a, b => (a, b)
  | c :: r, a, b => if c = 10 then adv r (a + 1) 1 else adv r a (b + 1)
theorem adv_plain : ∀ (p r : List UInt8) (a b : Int), (∀ c ∈ p, c ≠ 10) → adv (p ++ r) a b = adv r a (b + (p.length : Nat))
  | [], r, a, b, _ => by
    rw [List.nil_append, List.length_nil, show b + ((0 : Nat) : Int) = b by omega]
  | c :: p, r, a, b, h => by
    rw [List.cons_append]
    conv => lhs; unfold adv
    rw [if_neg (h c List.mem_cons_self), adv_plain p r a (b + 1) fun d hd => h d (List.mem_cons_of_mem _ hd), List.length_cons, show b + 1 + ((p.length : Nat) : Int) = b + ((p.length + 1 : Nat) : Int) by omega]
theorem adv_take {l : List UInt8} {n m : Nat} (h : n ≤ m) (h10 : ∀ c ∈ l.take n, c ≠ 10) (hl : n ≤ l.length) (a b : Int) : adv (l.take m) a b = adv ((l.drop n).take (m - n)) a (b + (n : Nat)) := by
  obtain ⟨j, rfl⟩ : ∃ j, m = n + j := ⟨m - n, by omega⟩
  rw [List.take_add, adv_plain _ _ _ _ h10, List.length_take, Nat.min_eq_left hl, Nat.add_sub_cancel_left]
theorem consW_ok {t : Tkn} {x : Except (Int × Int × Int) (List Tkn)} {ts : List Tkn} (h : consW t x = .ok ts) : ∃ us, x = .ok us ∧ ts = t :: us := by
  cases x with
  | error e => cases h
  | ok us => injection h with h; exact ⟨us, rfl, h.symm⟩
/-- Cut ahead of a word. -/
theorem LX_cut : ∀ (k : Nat) (l : List UInt8) (a b : Int) (ts : List Tkn) (j : Nat) (t : Tkn), l.length ≤ k → LX l a b = .ok ts → ts[j]? = some t →
    ∃ i, i < l.length ∧ adv (l.take i) a b = (t.line, t.col) ∧ LX (l.take i) a b = .ok (ts.take j)
  | k, l, a, b, ts, j, t, hk, h, ht => by
    refine lex_cases (P := fun l => l.length ≤ k → LX l a b = .ok ts → ∃ i, i < l.length ∧ adv (l.take i) a b = (t.line, t.col) ∧ LX (l.take i) a b = .ok (ts.take j)) l ?_ ?_ ?_ ?_ ?_ ?_ hk h
    · rintro rfl _ h
      rw [LX_nil] at h
      injection h with h
      subst h
      simp at ht
    · rintro q rfl hk h
      obtain ⟨k, rfl⟩ : ∃ j, k = j + 1 := ⟨k - 1, by rw [List.length_cons] at hk; omega⟩
      rw [LX_line] at h
      obtain ⟨i, h1, h2, h3⟩ := LX_cut k q (a + 1) 1 ts j t (by rw [List.length_cons] at hk; omega) h ht
      refine ⟨i + 1, by rw [List.length_cons]; omega, ?_, ?_⟩
      · rw [List.take_succ_cons]
        exact h2
      · rw [List.take_succ_cons]
        exact h3
    · rintro q rfl hk h
      obtain ⟨k, rfl⟩ : ∃ j, k = j + 1 := ⟨k - 1, by rw [List.length_cons] at hk; omega⟩
      rw [LX_blank] at h
      obtain ⟨i, h1, h2, h3⟩ := LX_cut k q a (b + 1) ts j t (by rw [List.length_cons] at hk; omega) h ht
      refine ⟨i + 1, by rw [List.length_cons]; omega, ?_, ?_⟩
      · rw [List.take_succ_cons]
        exact h2
      · rw [List.take_succ_cons]
        exact h3
    · rintro q rfl hk h
      obtain ⟨k, rfl⟩ : ∃ j, k = j + 1 := ⟨k - 1, by rw [List.length_cons] at hk; omega⟩
      have hp := spanL_pos (q := no10) (c := 59) (r := q) (by decide)
      have hle := spanL_le no10 (59 :: q)
      rw [LX_rem] at h
      obtain ⟨i, h1, h2, h3⟩ := LX_cut k _ a _ ts j t (by rw [List.length_drop]; omega) h ht
      rw [List.length_drop] at h1
      refine ⟨spanL no10 (59 :: q) + i, by omega, ?_, ?_⟩
      · rw [adv_take (Nat.le_add_right _ _) no10_mem hle, Nat.add_sub_cancel_left]
        exact h2
      · have hs := spanL_take (q := no10) (59 :: q) (spanL no10 (59 :: q) + i) (Nat.le_add_right _ _)
        obtain ⟨m, hm⟩ : ∃ m, spanL no10 (59 :: q) + i = m + 1 := ⟨spanL no10 (59 :: q) + i - 1, by omega⟩
        have e : (59 :: q).take (spanL no10 (59 :: q) + i) = 59 :: q.take m := by rw [hm, List.take_succ_cons]
        have e2 : ((59 :: q).take (spanL no10 (59 :: q) + i)).drop (spanL no10 (59 :: q)) = ((59 :: q).drop (spanL no10 (59 :: q))).take i := by
          rw [List.drop_take, Nat.add_sub_cancel_left]
        rw [e] at hs e2 ⊢
        rw [LX_rem, hs, e2]
        exact h3
    · rintro c q e rfl hc hw hk h
      rw [LX_err hc hw] at h
      cases h
    · rintro c q w n rfl hc hw hk h
      obtain ⟨k, rfl⟩ : ∃ j, k = j + 1 := ⟨k - 1, by rw [List.length_cons] at hk; omega⟩
      obtain ⟨hn, hnl⟩ := wordL_len hw
      obtain ⟨_, h10⟩ := wordL_spell hw
      rw [LX_word hc hw] at h
      obtain ⟨us, hu, rfl⟩ := consW_ok h
      cases j with
      | zero =>
        refine ⟨0, by rw [List.length_cons]; omega, ?_, rfl⟩
        injection ht with ht
        subst ht
        rfl
      | succ j =>
        rw [List.getElem?_cons_succ] at ht
        obtain ⟨i, h1, h2, h3⟩ := LX_cut k _ a _ us j t (by rw [List.length_drop]; omega) hu ht
        rw [List.length_drop] at h1
        refine ⟨n + i, by omega, ?_, ?_⟩
        · rw [adv_take (Nat.le_add_right _ _) h10 hnl, Nat.add_sub_cancel_left]
          exact h2
        · have hw2 := wordL_take hw (m := n + i) (Nat.le_add_right _ _)
          obtain ⟨m, hm⟩ : ∃ m, n + i = m + 1 := ⟨n + i - 1, by omega⟩
          have e : (c :: q).take (n + i) = c :: q.take m := by rw [hm, List.take_succ_cons]
          have e2 : ((c :: q).take (n + i)).drop n = ((c :: q).drop n).take i := by rw [List.drop_take, Nat.add_sub_cancel_left]
          rw [e] at hw2 e2 ⊢
          rw [LX_word hc hw2, e2, h3]
          rfl
/-- Where a place stands: its line begins behind a line end, or at the front. -/
theorem adv_line : ∀ (l : List UInt8) (a b : Int), ∃ p, p ≤ l.length ∧ (adv l a b).1 = a + ((l.take p).count 10 : Nat) ∧ (∀ c ∈ l.drop p, c ≠ 10) ∧
    ((p = 0 ∧ (adv l a b).2 = b + (l.length : Nat)) ∨ (1 ≤ p ∧ l[p - 1]? = some 10 ∧ (adv l a b).2 = 1 + ((l.length - p : Nat) : Int)))
  | [], a, b => ⟨0, Nat.le_refl _, by simp [adv], by simp, .inl ⟨rfl, by simp [adv]⟩⟩
  | c :: r, a, b => by
    by_cases hc : c = 10
    · subst hc
      have e : adv (10 :: r) a b = adv r (a + 1) 1 := rfl
      rw [e]
      obtain ⟨p, h1, h2, h3, h4⟩ := adv_line r (a + 1) 1
      refine ⟨p + 1, by rw [List.length_cons]; omega, ?_, ?_, .inr ⟨by omega, ?_, ?_⟩⟩
      · rw [h2, List.take_succ_cons, List.count_cons_self]
        omega
      · rw [List.drop_succ_cons]
        exact h3
      · rw [Nat.add_sub_cancel]
        rcases h4 with ⟨rfl, _⟩ | ⟨h5, h6, _⟩
        · rfl
        · obtain ⟨m, rfl⟩ : ∃ m, p = m + 1 := ⟨p - 1, by omega⟩
          rw [List.getElem?_cons_succ]
          exact h6
      · rw [List.length_cons]
        rcases h4 with ⟨rfl, h5⟩ | ⟨h5, h6, h7⟩
        · rw [h5]; omega
        · rw [h7]; omega
    · have e : adv (c :: r) a b = adv r a (b + 1) := by
        conv => lhs; unfold adv
        rw [if_neg hc]
      rw [e]
      obtain ⟨p, h1, h2, h3, h4⟩ := adv_line r a (b + 1)
      rcases h4 with ⟨rfl, h5⟩ | ⟨h5, h6, h7⟩
      · refine ⟨0, by omega, ?_, ?_, .inl ⟨rfl, ?_⟩⟩
        · rw [h2]; rfl
        · intro d hd
          rw [List.drop_zero, List.mem_cons] at hd
          rcases hd with rfl | hd
          · exact hc
          · exact h3 d hd
        · rw [h5, List.length_cons]
          omega
      · refine ⟨p + 1, by rw [List.length_cons]; omega, ?_, ?_, .inr ⟨by omega, ?_, ?_⟩⟩
        · rw [h2, List.take_succ_cons, List.count_cons_of_ne hc]
        · rw [List.drop_succ_cons]
          exact h3
        · rw [Nat.add_sub_cancel]
          obtain ⟨m, rfl⟩ : ∃ m, p = m + 1 := ⟨p - 1, by omega⟩
          rw [List.getElem?_cons_succ]
          exact h6
        · rw [List.length_cons, h7]
          omega
/-! ### places rise -/
def plLt (a b c d : Int) : Prop := a < c ∨ a = c ∧ b < d
def plLe (a b c d : Int) : Prop := a < c ∨ a = c ∧ b ≤ d
theorem LX_rise : ∀ (k : Nat) (l : List UInt8) (a b : Int) , l.length ≤ k → 1 ≤ b →
    (∀ x y e, LX l a b = .error (x, y, e) → a ≤ x ∧ 1 ≤ y ∧ (e = 4 ∨ e = 9)) ∧
    (∀ ts, LX l a b = .ok ts → (∀ t ∈ ts, plLe a b t.line t.col) ∧ ts.Pairwise (fun s t => plLt s.line s.col t.line t.col))
  | k, l, a, b, hk, hb => by
    refine lex_cases (P := fun l => l.length ≤ k → (∀ x y e, LX l a b = .error (x, y, e) → a ≤ x ∧ 1 ≤ y ∧ (e = 4 ∨ e = 9)) ∧ (∀ ts, LX l a b = .ok ts → (∀ t ∈ ts, plLe a b t.line t.col) ∧ ts.Pairwise (fun s t => plLt s.line s.col t.line t.col))) l ?_ ?_ ?_ ?_ ?_ ?_ hk
    · rintro rfl _
      refine ⟨fun x y e h => ?_, fun ts h => ?_⟩
      · rw [LX_nil] at h; cases h
      · rw [LX_nil] at h
        injection h with h
        subst h
        exact ⟨by simp, List.Pairwise.nil⟩
    · rintro r rfl hk
      obtain ⟨k, rfl⟩ : ∃ j, k = j + 1 := ⟨k - 1, by rw [List.length_cons] at hk; omega⟩
      obtain ⟨h1, h2⟩ := LX_rise k r (a + 1) 1 (by rw [List.length_cons] at hk; omega) (by omega)
      rw [LX_line]
      refine ⟨fun x y e h => ?_, fun ts h => ?_⟩
      · obtain ⟨h3, h4, h5⟩ := h1 x y e h
        exact ⟨by omega, h4, h5⟩
      · obtain ⟨h3, h4⟩ := h2 ts h
        refine ⟨fun t ht => ?_, h4⟩
        rcases h3 t ht with h5 | ⟨h5, h6⟩
        · exact .inl (by omega)
        · exact .inl (by omega)
    · rintro r rfl hk
      obtain ⟨k, rfl⟩ : ∃ j, k = j + 1 := ⟨k - 1, by rw [List.length_cons] at hk; omega⟩
      obtain ⟨h1, h2⟩ := LX_rise k r a (b + 1) (by rw [List.length_cons] at hk; omega) (by omega)
      rw [LX_blank]
      refine ⟨h1, fun ts h => ?_⟩
      obtain ⟨h3, h4⟩ := h2 ts h
      refine ⟨fun t ht => ?_, h4⟩
      rcases h3 t ht with h5 | ⟨h5, h6⟩
      · exact .inl h5
      · exact .inr ⟨h5, by omega⟩
    · rintro r rfl hk
      obtain ⟨k, rfl⟩ : ∃ j, k = j + 1 := ⟨k - 1, by rw [List.length_cons] at hk; omega⟩
      have hp := spanL_pos (q := no10) (c := 59) (r := r) (by decide)
      rw [LX_rem]
      obtain ⟨h1, h2⟩ := LX_rise k ((59 :: r).drop (spanL no10 (59 :: r))) a (b + spanL no10 (59 :: r)) (by rw [List.length_drop]; omega) (by omega)
      refine ⟨h1, fun ts h => ?_⟩
      obtain ⟨h3, h4⟩ := h2 ts h
      refine ⟨fun t ht => ?_, h4⟩
      rcases h3 t ht with h5 | ⟨h5, h6⟩
      · exact .inl h5
      · exact .inr ⟨h5, by omega⟩
    · rintro c r e rfl hc hw hk
      rw [LX_err hc hw]
      refine ⟨fun x y e' h => ?_, fun ts h => by cases h⟩
      injection h with h
      simp only [Prod.mk.injEq] at h
      obtain ⟨rfl, rfl, rfl⟩ := h
      exact ⟨Int.le_refl _, hb, wordL_err hw⟩
    · rintro c r w n rfl hc hw hk
      obtain ⟨k, rfl⟩ : ∃ j, k = j + 1 := ⟨k - 1, by rw [List.length_cons] at hk; omega⟩
      obtain ⟨hn, _⟩ := wordL_len hw
      rw [LX_word hc hw]
      obtain ⟨h1, h2⟩ := LX_rise k ((c :: r).drop n) a (b + n) (by rw [List.length_drop]; omega) (by omega)
      cases hx : LX ((c :: r).drop n) a (b + n) with
      | error q =>
        obtain ⟨x', y', e'⟩ := q
        refine ⟨fun x y e h => ?_, fun ts h => by cases h⟩
        injection h with h
        simp only [Prod.mk.injEq] at h
        obtain ⟨rfl, rfl, rfl⟩ := h
        exact h1 _ _ _ hx
      | ok us =>
        refine ⟨fun x y e h => (by cases h), fun ts h => ?_⟩
        injection h with h
        subst h
        obtain ⟨h3, h4⟩ := h2 us hx
        refine ⟨fun t ht => ?_, List.Pairwise.cons (fun t ht => ?_) h4⟩
        · rw [List.mem_cons] at ht
          rcases ht with rfl | ht
          · exact .inr ⟨rfl, Int.le_refl _⟩
          · rcases h3 t ht with h5 | ⟨h5, h6⟩
            · exact .inl h5
            · exact .inr ⟨h5, by omega⟩
        · rcases h3 t ht with h5 | ⟨h5, h6⟩
          · exact .inl h5
          · exact .inr ⟨h5, by show b < t.col; omega⟩
/-! ### words told again -/
/-- Words that were read, somewhere. -/
def WasRead (w : Wd) : Prop := ∃ c r n, begC c ∧ wordL (c :: r) = .ok (w, n)
theorem LX_was : ∀ (k : Nat) (l : List UInt8) (a b : Int) (ts : List Tkn), l.length ≤ k → LX l a b = .ok ts → ∀ t ∈ ts, WasRead t.w
  | k, l, a, b, ts, hk, h => by
    refine lex_cases (P := fun l => l.length ≤ k → LX l a b = .ok ts → ∀ t ∈ ts, WasRead t.w) l ?_ ?_ ?_ ?_ ?_ ?_ hk h
    · rintro rfl _ h
      rw [LX_nil] at h
      injection h with h
      subst h
      simp
    · rintro q rfl hk h
      obtain ⟨k, rfl⟩ : ∃ j, k = j + 1 := ⟨k - 1, by rw [List.length_cons] at hk; omega⟩
      exact LX_was k q (a + 1) 1 ts (by rw [List.length_cons] at hk; omega) h
    · rintro q rfl hk h
      obtain ⟨k, rfl⟩ : ∃ j, k = j + 1 := ⟨k - 1, by rw [List.length_cons] at hk; omega⟩
      exact LX_was k q a (b + 1) ts (by rw [List.length_cons] at hk; omega) h
    · rintro q rfl hk h
      obtain ⟨k, rfl⟩ : ∃ j, k = j + 1 := ⟨k - 1, by rw [List.length_cons] at hk; omega⟩
      have hp := spanL_pos (q := no10) (c := 59) (r := q) (by decide)
      rw [LX_rem] at h
      exact LX_was k _ a _ ts (by rw [List.length_drop]; omega) h
    · rintro c q e rfl hc hw hk h
      rw [LX_err hc hw] at h
      cases h
    · rintro c q w n rfl hc hw hk h
      obtain ⟨k, rfl⟩ : ∃ j, k = j + 1 := ⟨k - 1, by rw [List.length_cons] at hk; omega⟩
      obtain ⟨hn, _⟩ := wordL_len hw
      rw [LX_word hc hw] at h
      obtain ⟨us, hu, rfl⟩ := consW_ok h
      intro t ht
      rw [List.mem_cons] at ht
      rcases ht with rfl | ht
      · exact ⟨c, q, n, hc, hw⟩
      · exact LX_was k _ a _ us (by rw [List.length_drop]; omega) hu t ht
/-- What stands between words: it is passed. -/
def Passed (sep : List UInt8) : Prop := (∃ c r, sep = c :: r ∧ (c = 10 ∨ c = 32)) ∧ ∀ r a b, ∃ a' b', LX (sep ++ r) a b = LX r a' b'
theorem passed_blank : Passed [32] := ⟨⟨32, [], rfl, .inr rfl⟩, fun r a b => ⟨a, b + 1, LX_blank r a b⟩⟩
theorem passed_line : Passed [10] := ⟨⟨10, [], rfl, .inl rfl⟩, fun r a b => ⟨a + 1, 1, LX_line r a b⟩⟩
/-- ' ; a remark' and a line end. -/
def remB : List UInt8 := [32, 59, 32, 97, 32, 114, 101, 109, 97, 114, 107, 10]
theorem passed_rem : Passed remB := ⟨⟨32, _, rfl, .inr rfl⟩, fun r a b => by
  have e : remB ++ r = 32 :: (59 :: ([32, 97, 32, 114, 101, 109, 97, 114, 107] ++ 10 :: r)) := rfl
  have hs : spanL no10 (59 :: ([32, 97, 32, 114, 101, 109, 97, 114, 107] ++ 10 :: r)) = 10 :=
    spanL_app (q := no10) [59, 32, 97, 32, 114, 101, 109, 97, 114, 107] (10 :: r) (by decide) (by simp [no10])
  refine ⟨a + 1, 1, ?_⟩
  rw [e, LX_blank, LX_rem, hs]
  exact LX_line r _ _⟩
/-- Words with something between them. -/
def joinB (sep : List UInt8) : List (List UInt8) → List UInt8
  | [] => []
  | [x] => x
  | x :: y :: r => x ++ (sep ++ joinB sep (y :: r))
theorem LX_back {sep : List UInt8} (hp : Passed sep) : ∀ (ws : List Wd) (a b : Int), (∀ w ∈ ws, WasRead w) → ∃ ts, LX (joinB sep (ws.map spellW)) a b = .ok ts ∧ ts.map Tkn.w = ws
  | [], a, b, _ => ⟨[], rfl, rfl⟩
  | w :: ws, a, b, h => by
    obtain ⟨c, q, n, hc, hw⟩ := h w List.mem_cons_self
    obtain ⟨hn, hnl⟩ := wordL_len hw
    obtain ⟨hs, _⟩ := wordL_spell hw
    obtain ⟨m, rfl⟩ : ∃ m, n = m + 1 := ⟨n - 1, by omega⟩
    have key : ∀ r, Stop r → LX (spellW w ++ r) a b = consW ⟨w, a, b⟩ (LX r a (b + ((m + 1 : Nat) : Int))) := fun r hr => by
      have hag := wordL_again hw hr
      rw [hs]
      have hlen : ((c :: q).take (m + 1)).length = m + 1 := by rw [List.length_take]; omega
      have hd : ((c :: q).take (m + 1) ++ r).drop (m + 1) = r := by
        rw [List.drop_append_of_le_length (by omega), List.drop_of_length_le (by omega), List.nil_append]
      rw [List.take_succ_cons, List.cons_append] at hag hd ⊢
      rw [LX_word hc hag, hd]
    cases ws with
    | nil =>
      have := key [] (fun c hc => by simp at hc)
      rw [List.append_nil] at this
      refine ⟨[⟨w, a, b⟩], ?_, rfl⟩
      show LX (spellW w) a b = _
      rw [this]
      rfl
    | cons x ws =>
      obtain ⟨⟨d, z, hz, hd⟩, hpass⟩ := hp
      have hk := key (sep ++ joinB sep ((x :: ws).map spellW)) (fun c hc => by
        rw [hz, List.cons_append, List.head?_cons] at hc
        injection hc with hc
        subst hc
        exact hd)
      obtain ⟨a', b', he⟩ := hpass (joinB sep ((x :: ws).map spellW)) a (b + ((m + 1 : Nat) : Int))
      obtain ⟨ts, h1, h2⟩ := LX_back ⟨⟨d, z, hz, hd⟩, hpass⟩ (x :: ws) a' b' fun y hy => h y (List.mem_cons_of_mem _ hy)
      refine ⟨⟨w, a, b⟩ :: ts, ?_, ?_⟩
      · show LX (spellW w ++ (sep ++ joinB sep ((x :: ws).map spellW))) a b = _
        rw [hk, he, h1]
        rfl
      · rw [List.map_cons, h2]
/-! ### how many bytes words have -/
theorem LX_bytes : ∀ (k : Nat) (l : List UInt8) (a b : Int) (ts : List Tkn), l.length ≤ k → LX l a b = .ok ts → ts.length + (ts.map fun t => (spellW t.w).length).sum ≤ 2 * l.length ∧ ts.length ≤ l.length
  | k, l, a, b, ts, hk, h => by
    refine lex_cases (P := fun l => l.length ≤ k → LX l a b = .ok ts → ts.length + (ts.map fun t => (spellW t.w).length).sum ≤ 2 * l.length ∧ ts.length ≤ l.length) l ?_ ?_ ?_ ?_ ?_ ?_ hk h
    · rintro rfl _ h
      rw [LX_nil] at h
      injection h with h
      subst h
      simp
    · rintro q rfl hk h
      obtain ⟨k, rfl⟩ : ∃ j, k = j + 1 := ⟨k - 1, by rw [List.length_cons] at hk; omega⟩
      have := LX_bytes k q (a + 1) 1 ts (by rw [List.length_cons] at hk; omega) h
      rw [List.length_cons]
      omega
    · rintro q rfl hk h
      obtain ⟨k, rfl⟩ : ∃ j, k = j + 1 := ⟨k - 1, by rw [List.length_cons] at hk; omega⟩
      have := LX_bytes k q a (b + 1) ts (by rw [List.length_cons] at hk; omega) h
      rw [List.length_cons]
      omega
    · rintro q rfl hk h
      obtain ⟨k, rfl⟩ : ∃ j, k = j + 1 := ⟨k - 1, by rw [List.length_cons] at hk; omega⟩
      have hp := spanL_pos (q := no10) (c := 59) (r := q) (by decide)
      rw [LX_rem] at h
      have := LX_bytes k _ a _ ts (by rw [List.length_drop]; omega) h
      rw [List.length_drop] at this
      omega
    · rintro c q e rfl hc hw hk h
      rw [LX_err hc hw] at h
      cases h
    · rintro c q w n rfl hc hw hk h
      obtain ⟨k, rfl⟩ : ∃ j, k = j + 1 := ⟨k - 1, by rw [List.length_cons] at hk; omega⟩
      obtain ⟨hn, hnl⟩ := wordL_len hw
      obtain ⟨hs, _⟩ := wordL_spell hw
      rw [LX_word hc hw] at h
      obtain ⟨us, hu, rfl⟩ := consW_ok h
      have := LX_bytes k _ a _ us (by rw [List.length_drop]; omega) hu
      rw [List.length_drop] at this
      rw [List.length_cons, List.map_cons, List.sum_cons, hs, List.length_take]
      omega
end Go.Proofs.YtkjndabbkfbkaaaGreatDoor
