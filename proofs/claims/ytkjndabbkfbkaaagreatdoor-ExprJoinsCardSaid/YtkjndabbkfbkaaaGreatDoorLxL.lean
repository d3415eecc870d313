/- Words of a source, in plain words: which word begins a text, all words of a text, their places. No program is named. -/
import Derived.Test.YtkjndabbkfbkaaaGreatDoorLx1
import Derived.Test.YtkjndabbkfbkaaaGreatDoorTkn
namespace Go.Proofs.YtkjndabbkfbkaaaGreatDoor
open Go Go.Lib

/-- How many bytes a number has. -/
def numLen (l : List UInt8) : Nat :=
  match l.drop (spanL digC l) with
  | 46 :: c :: r => if digC c then spanL digC l + (1 + spanL digC (c :: r)) else spanL digC l
  | _ => spanL digC l
def numW (l : List UInt8) : Except Int (Wd × Nat) :=
  match prsL (l.take (numLen l)) with
  | .ok v => .ok (⟨4, l.take (numLen l), v⟩, numLen l)
  | .error e => .error (if e = 9 then 9 else 4)
/-- How many bytes stand ahead of a text's end. -/
def txtSpan : Bool → List UInt8 → Nat
  | _, [] => 0
  | esc, c :: r => if (c == 34 && !esc) || !priC c then 0 else 1 + txtSpan (c == 92 && !esc) r
def txtW (l : List UInt8) : Except Int (Wd × Nat) :=
  if (l.drop (1 + txtSpan false l.tail)).head? = some 34 then
    match prsL (l.take (txtSpan false l.tail + 2)) with
    | .ok v => .ok (⟨5, l.tail.take (txtSpan false l.tail), v⟩, txtSpan false l.tail + 2)
    | .error _ => .error 4
  else .error 4
def twos : List (List UInt8) := [[60, 61], [62, 61], [60, 62], [46, 46]]
def ones : List UInt8 := [40, 41, 91, 93, 44, 58, 61, 60, 62, 43, 45, 42, 47]
def signW (l : List UInt8) : Except Int (Wd × Nat) :=
  if l.take 2 ∈ twos then .ok (⟨7, l.take 2, v0⟩, 2) else if l.take 1 ∈ ones.map fun c => [c] then .ok (⟨7, l.take 1, v0⟩, 1) else .error 4
/-- A name of at most twelve bytes, or none. -/
def shortW (w : Wd) (n : Nat) : Except Int (Wd × Nat) := if 12 < w.t.length then .error 4 else .ok (w, n)
/-- Does a name stand behind the first byte? -/
def markB (l : List UInt8) : Bool := match l with
  | _ :: c :: _ => lowC c
  | _ => false
/-- The word that a text begins with, and how many bytes it has. -/
def wordL (l : List UInt8) : Except Int (Wd × Nat) :=
  match l with
  | [] => .error 4
  | c :: r =>
    if lowC c then shortW ⟨1, l.take (spanL namC l), v0⟩ (spanL namC l)
    else if digC c then numW l
    else if c = 34 then txtW l
    else if c = 63 then (if markB l then shortW ⟨2, r.take (spanL namC r), v0⟩ (1 + spanL namC r) else .ok (⟨3, [], v0⟩, 1))
    else if c = 35 ∧ markB l = true then shortW ⟨6, r.take (spanL namC r), (5, 0, r.take (spanL namC r))⟩ (1 + spanL namC r)
    else signW l
/-- All words of a text that begins at a place: or the first that is none. -/
def lexGo : Nat → List UInt8 → Int → Int → Except (Int × Int × Int) (List Tkn)
  | 0, _, _, _ => .ok []
  | f + 1, l, line, col =>
    match l with
    | [] => .ok []
    | c :: r =>
      if c = 10 then lexGo f r (line + 1) 1
      else if c = 59 then lexGo f (l.drop (spanL (fun c => c != 10) l)) line (col + spanL (fun c => c != 10) l)
      else if c = 32 then lexGo f r line (col + 1)
      else match wordL l with
        | .error e => .error (line, col, e)
        | .ok (w, n) => match lexGo f (l.drop n) line (col + n) with
          | .error e => .error e
          | .ok ts => .ok (⟨w, line, col⟩ :: ts)
def lexL (l : List UInt8) : Except (Int × Int × Int) (List Tkn) := lexGo l.length l 1 1

theorem spanL_cons {q : UInt8 → Bool} {c : UInt8} {r : List UInt8} (h : q c = true) : spanL q (c :: r) = 1 + spanL q r := by
  unfold spanL
  rw [List.takeWhile_cons, if_pos h, List.length_cons]
  omega
theorem txtSpan_le : ∀ (b : Bool) (l : List UInt8), txtSpan b l ≤ l.length
  | _, [] => Nat.le_refl _
  | b, c :: r => by
    unfold txtSpan
    split
    · omega
    · have := txtSpan_le (c == 92 && !b) r
      rw [List.length_cons]
      omega
theorem numLen_pos {c : UInt8} {r : List UInt8} (h : digC c = true) : 1 ≤ numLen (c :: r) ∧ numLen (c :: r) ≤ (c :: r).length := by
  have h1 := spanL_cons (q := digC) (r := r) h
  have h2 := spanL_le digC (c :: r)
  unfold numLen
  split
  · rename_i d q e
    have h3 := congrArg List.length e
    rw [List.length_drop] at h3
    simp only [List.length_cons] at h3 h2 ⊢
    have h4 := spanL_le digC (d :: q)
    simp only [List.length_cons] at h4
    split <;> omega
  · omega
/-- A word has a byte, and no more than there are. -/
theorem wordL_len {l : List UInt8} {w : Wd} {n : Nat} (h : wordL l = .ok (w, n)) : 1 ≤ n ∧ n ≤ l.length := by
  unfold wordL at h
  cases l with
  | nil => cases h
  | cons c r =>
    simp only at h
    have hsh : ∀ {w' : Wd} {m : Nat}, shortW w' m = .ok (w, n) → m = n := fun {w' m} hh => by
      unfold shortW at hh
      split at hh
      · cases hh
      · injection hh with hh
        exact congrArg Prod.snd hh
    by_cases h1 : lowC c = true
    · rw [if_pos h1] at h
      have := hsh h
      have h2 := spanL_cons (q := namC) (r := r) (show namC c = true by unfold namC; rw [h1]; rfl)
      have h3 := spanL_le namC (c :: r)
      omega
    rw [if_neg h1] at h
    by_cases h2 : digC c = true
    · rw [if_pos h2] at h
      unfold numW at h
      split at h
      · injection h with h
        have := congrArg Prod.snd h
        have h3 := numLen_pos (r := r) h2
        simp only at this
        omega
      · cases h
    rw [if_neg h2] at h
    by_cases h3 : c = 34
    · rw [if_pos h3] at h
      unfold txtW at h
      split at h
      · rename_i hq
        split at h
        · injection h with h
          have := congrArg Prod.snd h
          simp only [List.tail_cons] at this hq
          have h5 : (1 + txtSpan false r) < (c :: r).length := by
            rw [List.head?_drop] at hq
            exact (List.getElem?_eq_some_iff.1 hq).1
          omega
        · cases h
      · cases h
    rw [if_neg h3] at h
    have hr := spanL_le namC r
    by_cases h4 : c = 63
    · rw [if_pos h4] at h
      split at h
      · have := hsh h
        rw [List.length_cons]
        omega
      · injection h with h
        have := congrArg Prod.snd h
        simp only at this
        rw [List.length_cons]
        omega
    rw [if_neg h4] at h
    by_cases h5 : c = 35 ∧ markB (c :: r) = true
    · rw [if_pos h5] at h
      have := hsh h
      rw [List.length_cons]
      omega
    rw [if_neg h5] at h
    unfold signW at h
    split at h
    · rename_i hm
      injection h with h
      have := congrArg Prod.snd h
      simp only at this
      have h6 : ((c :: r).take 2).length = 2 := by
        have : ∀ x ∈ twos, x.length = 2 := by decide
        exact this _ hm
      rw [List.length_take] at h6
      omega
    · split at h
      · injection h with h
        have := congrArg Prod.snd h
        simp only at this
        rw [List.length_cons]
        omega
      · cases h
end Go.Proofs.YtkjndabbkfbkaaaGreatDoor

/- Words: what stands behind a word changes nothing of it. No program is named. -/
namespace Go.Proofs.YtkjndabbkfbkaaaGreatDoor
open Go Go.Lib

theorem spanL_app {q : UInt8 → Bool} : ∀ (a r : List UInt8), (∀ c ∈ a, q c = true) → (∀ c, r.head? = some c → q c = false) → spanL q (a ++ r) = a.length
  | [], r, _, hr => by
    cases r with
    | nil => rfl
    | cons c r =>
      have := hr c rfl
      unfold spanL
      rw [List.nil_append, List.takeWhile_cons, if_neg (by simp [this])]
  | c :: a, r, ha, hr => by
    rw [List.cons_append, spanL_cons (ha c List.mem_cons_self), spanL_app a r (fun d hd => ha d (List.mem_cons_of_mem _ hd)) hr, List.length_cons]
    omega
theorem spanL_mem {q : UInt8 → Bool} : ∀ (l : List UInt8), ∀ c ∈ l.take (spanL q l), q c = true
  | [], c, h => by simp at h
  | d :: l, c, h => by
    by_cases hd : q d = true
    · rw [spanL_cons hd, Nat.add_comm, List.take_succ_cons, List.mem_cons] at h
      rcases h with rfl | h
      · exact hd
      · exact spanL_mem l c h
    · have : spanL q (d :: l) = 0 := by
        unfold spanL
        rw [List.takeWhile_cons, if_neg hd]
        rfl
      rw [this] at h
      simp at h
/-- A run ends where it ended, whatever of another kind stands behind. -/
theorem spanL_stop {q : UInt8 → Bool} (l r : List UInt8) (hr : ∀ c, r.head? = some c → q c = false) : spanL q (l.take (spanL q l) ++ r) = spanL q l := by
  rw [spanL_app _ _ (spanL_mem l) hr, List.length_take]
  have := spanL_le q l
  omega
/-- .. also behind fewer bytes than there were. -/
theorem spanL_take {q : UInt8 → Bool} : ∀ (l : List UInt8) (m : Nat), spanL q l ≤ m → spanL q (l.take m) = spanL q l
  | [], m, _ => by simp
  | d :: l, m, h => by
    by_cases hd : q d = true
    · rw [spanL_cons hd] at h ⊢
      cases m with
      | zero => omega
      | succ m =>
        rw [List.take_succ_cons, spanL_cons hd, spanL_take l m (by omega)]
    · have e : ∀ r, spanL q (d :: r) = 0 := fun r => by
        unfold spanL
        rw [List.takeWhile_cons, if_neg hd]
        rfl
      rw [e]
      cases m with
      | zero => rfl
      | succ m => rw [List.take_succ_cons, e]
/-- A run is the same with something of another kind behind the whole. -/
theorem spanL_behind {q : UInt8 → Bool} : ∀ (l r : List UInt8), (∀ c, r.head? = some c → q c = false) → spanL q (l ++ r) = spanL q l
  | [], r, hr => spanL_app [] r (by simp) hr
  | d :: l, r, hr => by
    by_cases hd : q d = true
    · rw [List.cons_append, spanL_cons hd, spanL_cons hd, spanL_behind l r hr]
    · have e : ∀ r, spanL q (d :: r) = 0 := fun r => by
        unfold spanL
        rw [List.takeWhile_cons, if_neg hd]
        rfl
      rw [List.cons_append, e, e]
theorem take_behind {l r : List UInt8} {n : Nat} (h : n ≤ l.length) : (l ++ r).take n = l.take n := List.take_append_of_le_length h
theorem txtSpan_behind : ∀ (b : Bool) (l r : List UInt8), txtSpan b (l ++ 10 :: r) = txtSpan b l
  | b, [], r => by
    rw [List.nil_append]
    unfold txtSpan
    rw [if_pos (by simp [priC])]
  | b, c :: l, r => by
    rw [List.cons_append]
    unfold txtSpan
    split
    · rfl
    · rw [txtSpan_behind]
theorem numLen_behind (l r : List UInt8) : numLen (l ++ 10 :: r) = numLen l := by
  have h1 := spanL_behind (q := digC) l (10 :: r) (by simp [digC])
  have h2 := spanL_le digC l
  unfold numLen
  rw [h1, List.drop_append_of_le_length h2]
  cases hd : l.drop (spanL digC l) with
  | nil => rfl
  | cons a l1 =>
    cases l1 with
    | nil =>
      rw [List.cons_append, List.nil_append]
      by_cases ha : a = 46
      · subst ha
        simp [digC]
      · split
        · rename_i e; injection e with e; exact absurd e ha
        · split
          · rename_i e; injection e with e; exact absurd e ha
          · rfl
    | cons b l2 =>
      rw [List.cons_append, List.cons_append]
      by_cases ha : a = 46
      · subst ha
        have := spanL_behind (q := digC) (b :: l2) (10 :: r) (by simp [digC])
        rw [List.cons_append] at this
        simp only [this]
      · split
        · rename_i e; injection e with e; exact absurd e ha
        · split
          · rename_i e; injection e with e; exact absurd e ha
          · rfl
theorem numW_behind (l r : List UInt8) (hl : numLen l ≤ l.length) : numW (l ++ 10 :: r) = numW l := by
  unfold numW
  rw [numLen_behind, take_behind hl]
theorem txtW_behind (c : UInt8) (l r : List UInt8) : txtW ((c :: l) ++ 10 :: r) = txtW (c :: l) := by
  have h1 := txtSpan_behind false l r
  have h2 := txtSpan_le false l
  unfold txtW
  rw [List.cons_append, List.tail_cons, List.tail_cons, h1]
  have e1 : ((c :: (l ++ 10 :: r)).drop (1 + txtSpan false l)).head? = some 34 ↔ ((c :: l).drop (1 + txtSpan false l)).head? = some 34 := by
    rw [Nat.add_comm, List.drop_succ_cons, List.drop_succ_cons, List.drop_append_of_le_length h2]
    cases hd : l.drop (txtSpan false l) with
    | nil => simp
    | cons d q => simp
  by_cases hq : ((c :: l).drop (1 + txtSpan false l)).head? = some 34
  · rw [if_pos (e1.2 hq), if_pos hq]
    have h3 : txtSpan false l + 2 ≤ (c :: l).length := by
      rw [List.head?_drop] at hq
      have := (List.getElem?_eq_some_iff.1 hq).1
      omega
    have e2 : (c :: (l ++ 10 :: r)).take (txtSpan false l + 2) = (c :: l).take (txtSpan false l + 2) := by
      have := take_behind (l := c :: l) (r := 10 :: r) h3
      rwa [List.cons_append] at this
    rw [e2, take_behind h2]
  · rw [if_neg (fun h => hq (e1.1 h)), if_neg hq]
theorem signW_behind (c : UInt8) (l r : List UInt8) : signW ((c :: l) ++ 10 :: r) = signW (c :: l) := by
  unfold signW
  have e1 : ((c :: l) ++ 10 :: r).take 1 = (c :: l).take 1 := rfl
  rw [e1]
  cases l with
  | cons d l => rfl
  | nil =>
    have h1 : ¬ ([c] ++ 10 :: r).take 2 ∈ twos := by
      show ¬ [c, 10] ∈ twos
      unfold twos
      simp
    have h2 : ¬ [c].take 2 ∈ twos := by
      show ¬ [c] ∈ twos
      unfold twos
      simp
    rw [if_neg h1, if_neg h2]
theorem markB_behind (c : UInt8) (l r : List UInt8) : markB ((c :: l) ++ 10 :: r) = markB (c :: l) := by
  cases l with
  | nil => simp [markB, lowC]
  | cons d l => rfl
/-- A line end behind the whole changes no word. -/
theorem wordL_behind (l r : List UInt8) (hl : l ≠ []) : wordL (l ++ 10 :: r) = wordL l := by
  obtain ⟨c, q, rfl⟩ := List.exists_cons_of_ne_nil hl
  have h1 := spanL_behind (q := namC) (c :: q) (10 :: r) (by simp [namC, lowC, digC])
  have h2 := spanL_behind (q := namC) q (10 :: r) (by simp [namC, lowC, digC])
  have h3 := take_behind (l := c :: q) (r := 10 :: r) (spanL_le namC (c :: q))
  have h4 := take_behind (l := q) (r := 10 :: r) (spanL_le namC q)
  have h5 := txtW_behind c q r
  have h6 := signW_behind c q r
  have h7 := markB_behind c q r
  rw [List.cons_append] at h1 h3 h5 h6 h7
  have h8 : digC c = true → numW (c :: (q ++ 10 :: r)) = numW (c :: q) := fun h => numW_behind (c :: q) r (numLen_pos h).2
  rw [List.cons_append]
  unfold wordL
  simp only [h1, h2, h3, h4, h5, h6, h7]
  by_cases hc : lowC c = true
  · rw [if_pos hc, if_pos hc]
  · rw [if_neg hc, if_neg hc]
    by_cases hd : digC c = true
    · rw [if_pos hd, if_pos hd, h8 hd]
    · rw [if_neg hd, if_neg hd]
end Go.Proofs.YtkjndabbkfbkaaaGreatDoor

/- Words: a word that stands alone, or with a blank or a line end behind, is read again. No program is named. -/
namespace Go.Proofs.YtkjndabbkfbkaaaGreatDoor
open Go Go.Lib

/-- Nothing, a blank or a line end. -/
def Stop (r : List UInt8) : Prop := ∀ c, r.head? = some c → c = 10 ∨ c = 32
theorem Stop.dig {r : List UInt8} (h : Stop r) : ∀ c, r.head? = some c → digC c = false := fun c hc => by
  rcases h c hc with rfl | rfl <;> rfl
theorem Stop.nam {r : List UInt8} (h : Stop r) : ∀ c, r.head? = some c → namC c = false := fun c hc => by
  rcases h c hc with rfl | rfl <;> rfl
theorem txtSpan_cons (b : Bool) (c : UInt8) (q : List UInt8) : txtSpan b (c :: q) = if ((c == 34 && !b) || !priC c) = true then 0 else 1 + txtSpan (c == 92 && !b) q := by
  conv => lhs; unfold txtSpan
theorem txtSpan_again : ∀ (b : Bool) (l r : List UInt8), txtSpan b l < l.length → txtSpan b (l.take (txtSpan b l + 1) ++ r) = txtSpan b l
  | b, [], r, h => by simp [txtSpan] at h
  | b, c :: q, r, h => by
    have e := txtSpan_cons b c q
    by_cases hc : ((c == 34 && !b) || !priC c) = true
    · rw [if_pos hc] at e
      rw [e, List.take_succ_cons, List.cons_append, txtSpan_cons, if_pos hc]
    · rw [if_neg hc] at e
      rw [e] at h ⊢
      rw [show 1 + txtSpan (c == 92 && !b) q + 1 = (txtSpan (c == 92 && !b) q + 1) + 1 by omega, List.take_succ_cons, List.cons_append, txtSpan_cons, if_neg hc,
        txtSpan_again _ q r (by rw [List.length_cons] at h; omega)]
theorem take_two (A B : List UInt8) (k : Nat) : (A ++ B).take (A.length + k) = A ++ B.take k := by
  rw [List.take_append, List.take_of_length_le (by omega), show A.length + k - A.length = k by omega]
theorem numLen_again (l r : List UInt8) (hs : Stop r) : numLen (l.take (numLen l) ++ r) = numLen l := by
  have hle := spanL_le digC l
  have hmem := spanL_mem (q := digC) l
  have hplain : numLen l = spanL digC l → numLen (l.take (numLen l) ++ r) = numLen l := fun e => by
    rw [e]
    have h1 := spanL_stop (q := digC) l r hs.dig
    have h2 : (l.take (spanL digC l) ++ r).drop (spanL digC l) = r := by
      rw [List.drop_append_of_le_length (by rw [List.length_take]; omega), List.drop_of_length_le (by rw [List.length_take]; omega), List.nil_append]
    unfold numLen
    rw [h1, h2]
    split
    · rename_i c q
      have := hs 46 rfl
      simp at this
    · rfl
  cases hd : l.drop (spanL digC l) with
  | nil => exact hplain (by unfold numLen; rw [hd])
  | cons a l1 =>
    cases l1 with
    | nil => exact hplain (by unfold numLen; rw [hd]; split <;> first | rfl | simp_all)
    | cons c q =>
      by_cases ha : a = 46 ∧ digC c = true
      · obtain ⟨rfl, hc⟩ := ha
        have hn : numLen l = spanL digC l + (1 + spanL digC (c :: q)) := by
          unfold numLen
          rw [hd]
          simp [hc]
        have hk := spanL_cons (q := digC) (r := q) hc
        have hkl := spanL_le digC (c :: q)
        have hl : l = l.take (spanL digC l) ++ 46 :: c :: q := by rw [← hd, List.take_append_drop]
        have hla : (l.take (spanL digC l)).length = spanL digC l := by rw [List.length_take]; omega
        have ht : l.take (numLen l) = l.take (spanL digC l) ++ 46 :: (c :: q).take (spanL digC (c :: q)) := by
          have h0 := take_two (l.take (spanL digC l)) (46 :: c :: q) (1 + spanL digC (c :: q))
          rw [← hl, hla, ← hn] at h0
          rw [h0, Nat.add_comm 1, List.take_succ_cons]
        have h1 : spanL digC (l.take (numLen l) ++ r) = spanL digC l := by
          rw [ht, List.append_assoc, spanL_app _ _ hmem (by intro d hd; simp at hd; subst hd; rfl), List.length_take]
          omega
        have h2 : (l.take (numLen l) ++ r).drop (spanL digC l) = 46 :: ((c :: q).take (spanL digC (c :: q)) ++ r) := by
          rw [ht, List.append_assoc, List.drop_append_of_le_length (by rw [List.length_take]; omega), List.drop_of_length_le (by rw [List.length_take]; omega)]
          rfl
        have h3 : (c :: q).take (spanL digC (c :: q)) ++ r = c :: (q.take (spanL digC q) ++ r) := by
          rw [hk, Nat.add_comm, List.take_succ_cons]
          rfl
        have h4 := spanL_stop (q := digC) (c :: q) r hs.dig
        rw [h3] at h2 h4
        rw [hn]
        conv => lhs; unfold numLen
        rw [← hn, h1, h2]
        simp only [hc, if_true, h4]
        omega
      · refine hplain ?_
        unfold numLen
        rw [hd]
        split
        · rename_i e
          simp only [List.cons.injEq] at e
          obtain ⟨e1, e2, _⟩ := e
          subst e1 e2
          rw [if_neg (fun h => ha ⟨rfl, h⟩)]
        · rfl
theorem txtW_cons (c : UInt8) (q : List UInt8) : txtW (c :: q) = if ((c :: q).drop (1 + txtSpan false q)).head? = some 34 then
    match prsL ((c :: q).take (txtSpan false q + 2)) with
    | .ok v => .ok (⟨5, q.take (txtSpan false q), v⟩, txtSpan false q + 2)
    | .error _ => .error 4
  else .error 4 := rfl
theorem take_again {l r : List UInt8} {n : Nat} (h : n ≤ l.length) : (l.take n ++ r).take n = l.take n := by
  rw [List.take_append_of_le_length (by rw [List.length_take]; omega), List.take_take, Nat.min_self]
theorem shortW_ok {w w' : Wd} {m n : Nat} (h : shortW w' m = .ok (w, n)) : m = n ∧ w' = w ∧ shortW w' m = .ok (w', m) := by
  unfold shortW at h ⊢
  split at h
  · cases h
  · rename_i hn
    injection h with h
    simp only [Prod.mk.injEq] at h
    exact ⟨h.2, h.1, by rw [if_neg hn]⟩
/-- A word that stands alone, or with a blank or a line end behind, is read again. -/
theorem wordL_again {l : List UInt8} {w : Wd} {n : Nat} (h : wordL l = .ok (w, n)) {r : List UInt8} (hs : Stop r) : wordL (l.take n ++ r) = .ok (w, n) := by
  obtain ⟨hn1, hnl⟩ := wordL_len h
  cases l with
  | nil => cases h
  | cons c q =>
    obtain ⟨m, rfl⟩ : ∃ m, n = m + 1 := ⟨n - 1, by omega⟩
    have hql : m ≤ q.length := by rw [List.length_cons] at hnl; omega
    have hL : (c :: q).take (m + 1) ++ r = c :: (q.take m ++ r) := by rw [List.take_succ_cons]; rfl
    have htk := take_again (l := c :: q) (r := r) (n := m + 1) hnl
    have htq := take_again (l := q) (r := r) (n := m) hql
    rw [hL] at htk ⊢
    unfold wordL at h ⊢
    simp only at h ⊢
    by_cases h1 : lowC c = true
    · rw [if_pos h1] at h ⊢
      obtain ⟨e1, e2, e3⟩ := shortW_ok h
      have hsp := spanL_stop (q := namC) (c :: q) r hs.nam
      rw [e1, hL] at hsp
      rw [e1] at e2 e3
      rw [hsp, htk, e3, e2]
    rw [if_neg h1] at h ⊢
    by_cases h2 : digC c = true
    · rw [if_pos h2] at h ⊢
      unfold numW at h ⊢
      have hnl2 := numLen_again (c :: q) r hs
      cases hp : prsL ((c :: q).take (numLen (c :: q))) with
      | error e => rw [hp] at h; cases h
      | ok v =>
        rw [hp] at h
        injection h with h
        simp only [Prod.mk.injEq] at h
        obtain ⟨e1, e2⟩ := h
        rw [e2] at hp e1 hnl2
        rw [hL] at hnl2
        rw [hnl2, htk, hp]
        simp only [e1]
    rw [if_neg h2] at h ⊢
    by_cases h3 : c = 34
    · rw [if_pos h3] at h ⊢
      rw [txtW_cons] at h ⊢
      by_cases hq : ((c :: q).drop (1 + txtSpan false q)).head? = some 34
      · rw [if_pos hq] at h
        cases hp : prsL ((c :: q).take (txtSpan false q + 2)) with
        | error e => rw [hp] at h; cases h
        | ok v =>
          rw [hp] at h
          injection h with h
          simp only [Prod.mk.injEq] at h
          obtain ⟨e1, e2⟩ := h
          have hm : m = txtSpan false q + 1 := by omega
          have hlt : txtSpan false q < q.length := by omega
          have hag := txtSpan_again false q r hlt
          rw [← hm] at hag
          have hdr : ((c :: (q.take m ++ r)).drop (1 + txtSpan false q)).head? = some 34 := by
            rw [Nat.add_comm, List.drop_succ_cons] at hq ⊢
            rw [List.head?_drop] at hq ⊢
            rw [List.getElem?_append_left (by rw [List.length_take]; omega), List.getElem?_take_of_lt (by omega)]
            exact hq
          have htt : (q.take m ++ r).take (txtSpan false q) = q.take (txtSpan false q) := by
            rw [List.take_append_of_le_length (by rw [List.length_take]; omega), List.take_take, Nat.min_eq_left (by omega)]
          rw [hag, if_pos hdr, show txtSpan false q + 2 = m + 1 by omega, htk, show m + 1 = txtSpan false q + 2 by omega, hp]
          simp only [htt, e1]
      · rw [if_neg hq] at h
        cases h
    rw [if_neg h3] at h ⊢
    have hmk : markB (c :: q) = true → ∀ m', m' = spanL namC q → markB (c :: (q.take m' ++ r)) = true := fun hm m' e => by
      cases q with
      | nil => cases hm
      | cons d q =>
        have hd : namC d = true := by unfold namC; rw [show lowC d = true from hm]; rfl
        rw [e, spanL_cons hd, Nat.add_comm, List.take_succ_cons]
        exact hm
    have hmn : markB (c :: r) = false := by
      cases r with
      | nil => rfl
      | cons d r =>
        rcases hs d rfl with rfl | rfl <;> rfl
    have hspq := spanL_stop (q := namC) q r hs.nam
    by_cases h4 : c = 63
    · rw [if_pos h4] at h ⊢
      by_cases hb : markB (c :: q) = true
      · rw [if_pos hb] at h
        obtain ⟨e1, e2, e3⟩ := shortW_ok h
        have hm : spanL namC q = m := by omega
        rw [if_pos (hmk hb m hm.symm)]
        rw [hm] at hspq e2 e3
        rw [hspq, htq, e3, e2, Nat.add_comm]
      · rw [if_neg hb] at h
        injection h with h
        simp only [Prod.mk.injEq] at h
        obtain ⟨e1, e2⟩ := h
        have hm : m = 0 := by omega
        subst hm
        rw [List.take_zero, List.nil_append, if_neg (by rw [hmn]; simp), e1]
    rw [if_neg h4] at h ⊢
    by_cases h5 : c = 35 ∧ markB (c :: q) = true
    · rw [if_pos h5] at h
      obtain ⟨e1, e2, e3⟩ := shortW_ok h
      have hm : spanL namC q = m := by omega
      rw [if_pos ⟨h5.1, hmk h5.2 m hm.symm⟩]
      rw [hm] at hspq e2 e3
      rw [hspq, htq, e3, e2, Nat.add_comm]
    rw [if_neg h5] at h
    unfold signW at h
    by_cases h6 : (c :: q).take 2 ∈ twos
    · rw [if_pos h6] at h
      injection h with h
      simp only [Prod.mk.injEq] at h
      obtain ⟨e1, e2⟩ := h
      have hm : m = 1 := by omega
      subst hm
      have hc : c ≠ 35 := by
        rintro rfl
        cases q with
        | nil => revert h6; decide
        | cons d q =>
          have : [(35 : UInt8), d] ∈ twos := h6
          unfold twos at this
          simp at this
      rw [if_neg (fun hh => hc hh.1)]
      unfold signW
      rw [htk, if_pos h6, e1]
    · rw [if_neg h6] at h
      split at h
      · rename_i h7
        injection h with h
        simp only [Prod.mk.injEq] at h
        obtain ⟨e1, e2⟩ := h
        have hm : m = 0 := by omega
        subst hm
        have h8 : ¬ (c :: (q.take 0 ++ r)).take 2 ∈ twos := by
          rw [List.take_zero, List.nil_append]
          cases r with
          | nil => show ¬ [c] ∈ twos; unfold twos; simp
          | cons d r =>
            show ¬ [c, d] ∈ twos
            unfold twos
            rcases hs d rfl with rfl | rfl <;> simp
        rw [if_neg (fun hh => by rw [List.take_zero, List.nil_append, hmn] at hh; cases hh.2)]
        unfold signW
        rw [if_neg h8]
        have h9 : (c :: (q.take 0 ++ r)).take 1 = (c :: q).take 1 := rfl
        rw [h9, if_pos h7, e1]
      · cases h
end Go.Proofs.YtkjndabbkfbkaaaGreatDoor

/- Words: a word is read again where fewer bytes stand, if its own do. No program is named. -/
namespace Go.Proofs.YtkjndabbkfbkaaaGreatDoor
open Go Go.Lib

theorem txtSpan_take : ∀ (b : Bool) (l : List UInt8) (m : Nat), txtSpan b l < m → txtSpan b (l.take m) = txtSpan b l
  | b, [], m, _ => by simp
  | b, c :: q, m, h => by
    obtain ⟨m, rfl⟩ : ∃ k, m = k + 1 := ⟨m - 1, by omega⟩
    rw [List.take_succ_cons, txtSpan_cons, txtSpan_cons]
    rw [txtSpan_cons] at h
    by_cases hc : ((c == 34 && !b) || !priC c) = true
    · rw [if_pos hc, if_pos hc]
    · rw [if_neg hc] at h
      rw [if_neg hc, if_neg hc, txtSpan_take _ q m (by omega)]
/-- What a number has, from what stands behind its first digits. -/
def numTail (n : Nat) (x : List UInt8) : Nat := match x with
  | 46 :: c :: r => if digC c then n + (1 + spanL digC (c :: r)) else n
  | _ => n
theorem numLen_eq (l : List UInt8) : numLen l = numTail (spanL digC l) (l.drop (spanL digC l)) := rfl
theorem numTail_ge (n : Nat) (x : List UInt8) : n ≤ numTail n x := by
  unfold numTail
  split
  · split <;> omega
  · omega
theorem numTail_take (n m : Nat) (x : List UInt8) (h : numTail n x ≤ n + m) : numTail n (x.take m) = numTail n x := by
  match x with
  | [] => simp
  | [a] =>
    have e : numTail n [a] = n := by unfold numTail; split <;> simp_all
    cases m with
    | zero => rw [e]; rfl
    | succ m => simp
  | a :: c :: q =>
    by_cases ha : a = 46 ∧ digC c = true
    · obtain ⟨rfl, hc⟩ := ha
      have e : ∀ y, numTail n (46 :: c :: y) = n + (1 + spanL digC (c :: y)) := fun y => by unfold numTail; simp [hc]
      rw [e] at h
      have hk := spanL_cons (q := digC) (r := q) hc
      obtain ⟨k, rfl⟩ : ∃ k, m = k + 2 := ⟨m - 2, by omega⟩
      have h3 := spanL_take (q := digC) (c :: q) (k + 1) (by omega)
      rw [List.take_succ_cons] at h3
      rw [List.take_succ_cons, List.take_succ_cons, e, e, h3]
    · have e1 : ∀ y, numTail n (a :: c :: y) = n := fun y => by
        unfold numTail
        split
        · rename_i e
          simp only [List.cons.injEq] at e
          obtain ⟨e1, e2, _⟩ := e
          subst e1 e2
          rw [if_neg (fun h => ha ⟨rfl, h⟩)]
        · rfl
      rw [e1]
      match m with
      | 0 => rfl
      | 1 =>
        show numTail n [a] = n
        unfold numTail
        split <;> simp_all
      | m + 2 => rw [List.take_succ_cons, List.take_succ_cons, e1]
theorem numLen_take (l : List UInt8) (m : Nat) (h : numLen l ≤ m) : numLen (l.take m) = numLen l := by
  have hsp := numTail_ge (spanL digC l) (l.drop (spanL digC l))
  rw [← numLen_eq] at hsp
  rw [numLen_eq, spanL_take (q := digC) l m (by omega), List.drop_take, numTail_take _ _ _ (by rw [← numLen_eq]; omega), ← numLen_eq]
theorem take_less {l : List UInt8} {n m : Nat} (h : n ≤ m) : (l.take m).take n = l.take n := by
  rw [List.take_take, Nat.min_eq_left h]
/-- A word is read again where fewer bytes stand, if its own do. -/
theorem wordL_take {l : List UInt8} {w : Wd} {n : Nat} (h : wordL l = .ok (w, n)) {m : Nat} (hm : n ≤ m) : wordL (l.take m) = .ok (w, n) := by
  obtain ⟨hn1, hnl⟩ := wordL_len h
  cases l with
  | nil => cases h
  | cons c q =>
    obtain ⟨k, rfl⟩ : ∃ k, m = k + 1 := ⟨m - 1, by omega⟩
    have htk := take_less (l := c :: q) hm
    rw [List.take_succ_cons] at htk ⊢
    unfold wordL at h ⊢
    simp only at h ⊢
    by_cases h1 : lowC c = true
    · rw [if_pos h1] at h ⊢
      obtain ⟨e1, e2, e3⟩ := shortW_ok h
      have hsp := spanL_take (q := namC) (c :: q) (k + 1) (by omega)
      rw [List.take_succ_cons] at hsp
      rw [hsp, e1, htk]
      rw [e1] at e2 e3
      rw [e3, e2]
    rw [if_neg h1] at h ⊢
    by_cases h2 : digC c = true
    · rw [if_pos h2] at h ⊢
      unfold numW at h ⊢
      cases hp : prsL ((c :: q).take (numLen (c :: q))) with
      | error e => rw [hp] at h; cases h
      | ok v =>
        rw [hp] at h
        injection h with h
        simp only [Prod.mk.injEq] at h
        obtain ⟨e1, e2⟩ := h
        have hnl2 := numLen_take (c :: q) (k + 1) (by omega)
        rw [List.take_succ_cons] at hnl2
        rw [e2] at hp e1 hnl2
        rw [hnl2, htk, hp]
        simp only [e1]
    rw [if_neg h2] at h ⊢
    by_cases h3 : c = 34
    · rw [if_pos h3] at h ⊢
      rw [txtW_cons] at h ⊢
      by_cases hq : ((c :: q).drop (1 + txtSpan false q)).head? = some 34
      · rw [if_pos hq] at h
        cases hp : prsL ((c :: q).take (txtSpan false q + 2)) with
        | error e => rw [hp] at h; cases h
        | ok v =>
          rw [hp] at h
          injection h with h
          simp only [Prod.mk.injEq] at h
          obtain ⟨e1, e2⟩ := h
          have hag := txtSpan_take false q k (by omega)
          have hdr : ((c :: q.take k).drop (1 + txtSpan false q)).head? = some 34 := by
            rw [Nat.add_comm, List.drop_succ_cons] at hq ⊢
            rw [List.head?_drop] at hq ⊢
            rw [List.getElem?_take_of_lt (by omega)]
            exact hq
          rw [hag, if_pos hdr, e2, htk, ← e2, hp]
          simp only [take_less (l := q) (show txtSpan false q ≤ k by omega), e1]
      · rw [if_neg hq] at h
        cases h
    rw [if_neg h3] at h ⊢
    have hmk : markB (c :: q) = true → 1 ≤ k → markB (c :: q.take k) = true := fun hmb hk => by
      cases q with
      | nil => cases hmb
      | cons d q =>
        obtain ⟨j, rfl⟩ : ∃ j, k = j + 1 := ⟨k - 1, by omega⟩
        rw [List.take_succ_cons]
        exact hmb
    have hmn : ¬ markB (c :: q) = true → ¬ markB (c :: q.take k) = true := fun hmb hk => by
      cases q with
      | nil => simp [markB] at hk
      | cons d q =>
        cases k with
        | zero => simp [markB] at hk
        | succ k =>
          rw [List.take_succ_cons] at hk
          exact hmb hk
    have hpos : markB (c :: q) = true → 1 ≤ spanL namC q := fun hmb => by
      cases q with
      | nil => cases hmb
      | cons d q =>
        have hd : namC d = true := by unfold namC; rw [show lowC d = true from hmb]; rfl
        rw [spanL_cons hd]
        omega
    by_cases h4 : c = 63
    · rw [if_pos h4] at h ⊢
      by_cases hb : markB (c :: q) = true
      · rw [if_pos hb] at h
        obtain ⟨e1, e2, e3⟩ := shortW_ok h
        have := hpos hb
        have hsp := spanL_take (q := namC) q k (by omega)
        rw [if_pos (hmk hb (by omega)), hsp, take_less (show spanL namC q ≤ k by omega)]
        exact h
      · rw [if_neg hb] at h
        rw [if_neg (hmn hb)]
        exact h
    rw [if_neg h4] at h ⊢
    by_cases h5 : c = 35 ∧ markB (c :: q) = true
    · rw [if_pos h5] at h
      obtain ⟨e1, e2, e3⟩ := shortW_ok h
      have := hpos h5.2
      have hsp := spanL_take (q := namC) q k (by omega)
      rw [if_pos ⟨h5.1, hmk h5.2 (by omega)⟩, hsp, take_less (show spanL namC q ≤ k by omega)]
      exact h
    rw [if_neg h5] at h
    rw [if_neg (fun hh => h5 ⟨hh.1, Decidable.byContradiction fun hx => hmn hx hh.2⟩)]
    unfold signW at h ⊢
    by_cases h6 : (c :: q).take 2 ∈ twos
    · rw [if_pos h6] at h
      injection h with h
      simp only [Prod.mk.injEq] at h
      obtain ⟨e1, e2⟩ := h
      subst e2
      rw [htk, if_pos h6, e1]
    · rw [if_neg h6] at h
      split at h
      · rename_i h7
        injection h with h
        simp only [Prod.mk.injEq] at h
        obtain ⟨e1, e2⟩ := h
        subst e2
        have h8 : ¬ (c :: q.take k).take 2 ∈ twos := fun hh => by
          cases k with
          | zero =>
            rw [List.take_zero] at hh
            have : ∀ x ∈ twos, x.length = 2 := by decide
            have := this _ hh
            simp at this
          | succ k =>
            have := take_less (l := c :: q) (show 2 ≤ k + 1 + 1 by omega)
            rw [List.take_succ_cons] at this
            rw [this] at hh
            exact h6 hh
        rw [if_neg h8, htk, if_pos h7, e1]
      · cases h
end Go.Proofs.YtkjndabbkfbkaaaGreatDoor

/- All words of a source: fuel; two sources with a line end between. No program is named. -/
namespace Go.Proofs.YtkjndabbkfbkaaaGreatDoor
open Go Go.Lib

theorem spanL_pos {q : UInt8 → Bool} {c : UInt8} {r : List UInt8} (h : q c = true) : 1 ≤ spanL q (c :: r) := by
  rw [spanL_cons h]; omega
theorem lexGo_fuel : ∀ (f g : Nat) (l : List UInt8) (a b : Int), l.length ≤ f → l.length ≤ g → lexGo f l a b = lexGo g l a b
  | 0, g, l, a, b, hf, _ => by
    obtain rfl : l = [] := List.eq_nil_of_length_eq_zero (by omega)
    cases g with
    | zero => rfl
    | succ g => rfl
  | f + 1, g, l, a, b, hf, hg => by
    cases l with
    | nil => cases g <;> rfl
    | cons c r =>
      obtain ⟨g, rfl⟩ : ∃ k, g = k + 1 := ⟨g - 1, by rw [List.length_cons] at hg; omega⟩
      rw [List.length_cons] at hf hg
      unfold lexGo
      simp only
      rw [lexGo_fuel f g r (a + 1) 1 (by omega) (by omega), lexGo_fuel f g r a (b + 1) (by omega) (by omega)]
      by_cases h1 : c = 10
      · rw [if_pos h1, if_pos h1]
      rw [if_neg h1, if_neg h1]
      by_cases h2 : c = 59
      · rw [if_pos h2, if_pos h2]
        have := spanL_pos (q := fun c => c != 10) (c := c) (r := r) (by simpa using h1)
        exact lexGo_fuel f g _ _ _ (by rw [List.length_drop, List.length_cons]; omega) (by rw [List.length_drop, List.length_cons]; omega)
      rw [if_neg h2, if_neg h2]
      by_cases h3 : c = 32
      · rw [if_pos h3, if_pos h3]
      rw [if_neg h3, if_neg h3]
      cases hw : wordL (c :: r) with
      | error e => rfl
      | ok p =>
        obtain ⟨w, n⟩ := p
        obtain ⟨h4, _⟩ := wordL_len hw
        simp only
        rw [lexGo_fuel f g ((c :: r).drop n) a (b + n) (by rw [List.length_drop, List.length_cons]; omega) (by rw [List.length_drop, List.length_cons]; omega)]
end Go.Proofs.YtkjndabbkfbkaaaGreatDoor

/- Words: no line end stands in one; a word spelled is its bytes. No program is named. -/
namespace Go.Proofs.YtkjndabbkfbkaaaGreatDoor
open Go Go.Lib

theorem txtSpan_mem : ∀ (b : Bool) (l : List UInt8), ∀ c ∈ l.take (txtSpan b l), priC c = true
  | b, [], c, h => by simp at h
  | b, d :: q, c, h => by
    rw [txtSpan_cons] at h
    by_cases hc : ((d == 34 && !b) || !priC d) = true
    · rw [if_pos hc] at h
      simp at h
    · rw [if_neg hc, Nat.add_comm, List.take_succ_cons, List.mem_cons] at h
      rcases h with rfl | h
      · simp only [Bool.or_eq_true, not_or, Bool.not_eq_true, Bool.not_eq_false'] at hc
        exact hc.2
      · exact txtSpan_mem _ q c h
theorem numTail_mem (n : Nat) (x : List UInt8) : ∃ k, numTail n x = n + k ∧ ∀ c ∈ x.take k, digC c = true ∨ c = 46 := by
  unfold numTail
  split
  · rename_i c r
    split
    · refine ⟨1 + spanL digC (c :: r), rfl, fun d hd => ?_⟩
      rw [Nat.add_comm, List.take_succ_cons, List.mem_cons] at hd
      rcases hd with rfl | hd
      · exact .inr rfl
      · exact .inl (spanL_mem _ d hd)
    · exact ⟨0, rfl, by simp⟩
  · exact ⟨0, rfl, by simp⟩
theorem numLen_mem (l : List UInt8) : ∀ c ∈ l.take (numLen l), digC c = true ∨ c = 46 := by
  intro c hc
  obtain ⟨k, h1, h2⟩ := numTail_mem (spanL digC l) (l.drop (spanL digC l))
  rw [numLen_eq, h1, List.take_add, List.mem_append] at hc
  rcases hc with hc | hc
  · exact .inl (spanL_mem _ c hc)
  · exact h2 c hc
theorem ne10_nam {c : UInt8} (h : namC c = true) : c ≠ 10 := by rintro rfl; cases h
theorem ne10_pri {c : UInt8} (h : priC c = true) : c ≠ 10 := by rintro rfl; cases h
theorem ne10_num {c : UInt8} (h : digC c = true ∨ c = 46) : c ≠ 10 := by
  rintro rfl
  rcases h with h | h
  · cases h
  · cases h
/-- A word as it is written. -/
def spellW (w : Wd) : List UInt8 :=
  if w.k = 2 ∨ w.k = 3 then 63 :: w.t else if w.k = 5 then 34 :: (w.t ++ [34]) else if w.k = 6 then 35 :: w.t else w.t
theorem take_head34 {q : List UInt8} {k : Nat} (h : (q.drop k).head? = some 34) : q.take (k + 1) = q.take k ++ [34] := by
  rw [List.head?_drop] at h
  rw [List.take_add_one, h]
  rfl
/-- A word spelled is its bytes, and no line end stands in it. -/
theorem wordL_spell {l : List UInt8} {w : Wd} {n : Nat} (h : wordL l = .ok (w, n)) : spellW w = l.take n ∧ ∀ c ∈ l.take n, c ≠ 10 := by
  unfold wordL at h
  cases l with
  | nil => cases h
  | cons c r =>
    simp only at h
    by_cases h1 : lowC c = true
    · rw [if_pos h1] at h
      obtain ⟨e1, e2, _⟩ := shortW_ok h
      subst e1 e2
      exact ⟨rfl, fun d hd => ne10_nam (spanL_mem _ d hd)⟩
    rw [if_neg h1] at h
    by_cases h2 : digC c = true
    · rw [if_pos h2] at h
      unfold numW at h
      cases hp : prsL ((c :: r).take (numLen (c :: r))) with
      | error e => rw [hp] at h; cases h
      | ok v =>
        rw [hp] at h
        injection h with h
        simp only [Prod.mk.injEq] at h
        obtain ⟨e1, e2⟩ := h
        subst e1 e2
        exact ⟨rfl, fun d hd => ne10_num (numLen_mem _ d hd)⟩
    rw [if_neg h2] at h
    by_cases h3 : c = 34
    · rw [if_pos h3, txtW_cons] at h
      by_cases hq : ((c :: r).drop (1 + txtSpan false r)).head? = some 34
      · rw [if_pos hq] at h
        cases hp : prsL ((c :: r).take (txtSpan false r + 2)) with
        | error e => rw [hp] at h; cases h
        | ok v =>
          rw [hp] at h
          injection h with h
          simp only [Prod.mk.injEq] at h
          obtain ⟨e1, e2⟩ := h
          subst e1 e2 h3
          rw [Nat.add_comm, List.drop_succ_cons] at hq
          have ht := take_head34 hq
          rw [List.take_succ_cons, ht]
          refine ⟨rfl, fun d hd => ?_⟩
          rw [List.mem_cons, List.mem_append] at hd
          rcases hd with rfl | hd | hd
          · decide
          · exact ne10_pri (txtSpan_mem _ _ d hd)
          · rw [List.mem_singleton] at hd
            subst hd
            decide
      · rw [if_neg hq] at h; cases h
    rw [if_neg h3] at h
    by_cases h4 : c = 63
    · rw [if_pos h4] at h
      by_cases hm : markB (c :: r) = true
      · rw [if_pos hm] at h
        obtain ⟨e1, e2, _⟩ := shortW_ok h
        subst e1 e2 h4
        rw [Nat.add_comm, List.take_succ_cons]
        refine ⟨rfl, fun d hd => ?_⟩
        rw [List.mem_cons] at hd
        rcases hd with rfl | hd
        · decide
        · exact ne10_nam (spanL_mem _ d hd)
      · rw [if_neg hm] at h
        injection h with h
        simp only [Prod.mk.injEq] at h
        obtain ⟨e1, e2⟩ := h
        subst e1 e2 h4
        refine ⟨rfl, fun d hd => ?_⟩
        simp only [List.take_succ_cons, List.take_zero, List.mem_singleton] at hd
        subst hd
        decide
    rw [if_neg h4] at h
    by_cases h5 : c = 35 ∧ markB (c :: r) = true
    · rw [if_pos h5] at h
      obtain ⟨e1, e2, _⟩ := shortW_ok h
      subst e1 e2
      obtain ⟨rfl, _⟩ := h5
      rw [Nat.add_comm, List.take_succ_cons]
      refine ⟨rfl, fun d hd => ?_⟩
      rw [List.mem_cons] at hd
      rcases hd with rfl | hd
      · decide
      · exact ne10_nam (spanL_mem _ d hd)
    rw [if_neg h5] at h
    unfold signW at h
    by_cases h6 : (c :: r).take 2 ∈ twos
    · rw [if_pos h6] at h
      injection h with h
      simp only [Prod.mk.injEq] at h
      obtain ⟨e1, e2⟩ := h
      subst e1 e2
      exact ⟨rfl, (show ∀ x ∈ twos, ∀ d ∈ x, d ≠ 10 by decide) _ h6⟩
    · rw [if_neg h6] at h
      by_cases h7 : (c :: r).take 1 ∈ ones.map fun c => [c]
      · rw [if_pos h7] at h
        injection h with h
        simp only [Prod.mk.injEq] at h
        obtain ⟨e1, e2⟩ := h
        subst e1 e2
        exact ⟨rfl, (show ∀ x ∈ ones.map (fun c => [c]), ∀ d ∈ x, d ≠ 10 by decide) _ h7⟩
      · rw [if_neg h7] at h; cases h
/-- A byte that begins a word is none of those that part words. -/
theorem wordL_err {l : List UInt8} {e : Int} (h : wordL l = .error e) : e = 4 ∨ e = 9 := by
  have hsh : ∀ {w' : Wd} {m : Nat}, shortW w' m = .error e → e = 4 := fun {w' m} hh => by
    unfold shortW at hh
    split at hh
    · injection hh with hh; exact hh.symm
    · cases hh
  unfold wordL at h
  cases l with
  | nil => injection h with h; exact .inl h.symm
  | cons c r =>
    simp only at h
    split at h
    · exact .inl (hsh h)
    split at h
    · unfold numW at h
      split at h
      · cases h
      · injection h with h
        rw [← h]
        split
        · exact .inr rfl
        · exact .inl rfl
    split at h
    · unfold txtW at h
      split at h
      · split at h
        · cases h
        · injection h with h; exact .inl h.symm
      · injection h with h; exact .inl h.symm
    split at h
    · split at h
      · exact .inl (hsh h)
      · cases h
    split at h
    · exact .inl (hsh h)
    unfold signW at h
    split at h
    · cases h
    · split at h
      · cases h
      · injection h with h; exact .inl h.symm
end Go.Proofs.YtkjndabbkfbkaaaGreatDoor

/- All words of a source: joins, cuts, words told again; places rise. No program is named. -/
namespace Go.Proofs.YtkjndabbkfbkaaaGreatDoor
open Go Go.Lib

/-- All words of a text that begins at a place. -/
def LX (l : List UInt8) (a b : Int) : Except (Int × Int × Int) (List Tkn) := lexGo l.length l a b
theorem lexL_LX (l : List UInt8) : lexL l = LX l 1 1 := rfl
/-- A word, and what stands behind it. -/
def consW (t : Tkn) : Except (Int × Int × Int) (List Tkn) → Except (Int × Int × Int) (List Tkn)
  | .error e => .error e
  | .ok ts => .ok (t :: ts)
theorem LX_nil (a b : Int) : LX [] a b = .ok [] := rfl
theorem LX_line (r : List UInt8) (a b : Int) : LX (10 :: r) a b = LX r (a + 1) 1 := rfl
theorem LX_blank (r : List UInt8) (a b : Int) : LX (32 :: r) a b = LX r a (b + 1) := rfl
def no10 (c : UInt8) : Bool := c != 10
theorem LX_rem (r : List UInt8) (a b : Int) : LX (59 :: r) a b = LX ((59 :: r).drop (spanL no10 (59 :: r))) a (b + spanL no10 (59 :: r)) := by
  have hp := spanL_pos (q := no10) (c := 59) (r := r) (by decide)
  have e : LX (59 :: r) a b = lexGo r.length ((59 :: r).drop (spanL no10 (59 :: r))) a (b + spanL no10 (59 :: r)) := rfl
  rw [e]
  exact lexGo_fuel _ _ _ _ _ (by rw [List.length_drop, List.length_cons]; omega) (Nat.le_refl _)
/-- A byte that begins a word, or what is none. -/
def begC (c : UInt8) : Prop := c ≠ 10 ∧ c ≠ 59 ∧ c ≠ 32
theorem LX_err {c : UInt8} {r : List UInt8} (hc : begC c) {e : Int} (h : wordL (c :: r) = .error e) (a b : Int) : LX (c :: r) a b = .error (a, b, e) := by
  unfold LX
  rw [List.length_cons]
  unfold lexGo
  simp only
  rw [if_neg hc.1, if_neg hc.2.1, if_neg hc.2.2, h]
theorem LX_word {c : UInt8} {r : List UInt8} (hc : begC c) {w : Wd} {n : Nat} (h : wordL (c :: r) = .ok (w, n)) (a b : Int) : LX (c :: r) a b = consW ⟨w, a, b⟩ (LX ((c :: r).drop n) a (b + n)) := by
  obtain ⟨hn, _⟩ := wordL_len h
  have e : LX ((c :: r).drop n) a (b + n) = lexGo r.length ((c :: r).drop n) a (b + n) := lexGo_fuel _ _ _ _ _ (Nat.le_refl _) (by rw [List.length_drop, List.length_cons]; omega)
  rw [e]
  unfold LX
  rw [List.length_cons]
  conv => lhs; unfold lexGo
  simp only
  rw [if_neg hc.1, if_neg hc.2.1, if_neg hc.2.2, h]
  simp only
  cases lexGo r.length ((c :: r).drop n) a (b + n) <;> rfl
/-- The ways that a text begins. -/
theorem lex_cases {P : List UInt8 → Prop} (l : List UInt8) (h0 : l = [] → P l) (h1 : ∀ r, l = 10 :: r → P l) (h2 : ∀ r, l = 32 :: r → P l) (h3 : ∀ r, l = 59 :: r → P l)
    (h4 : ∀ c r e, l = c :: r → begC c → wordL l = .error e → P l) (h5 : ∀ c r w n, l = c :: r → begC c → wordL l = .ok (w, n) → P l) : P l := by
  cases l with
  | nil => exact h0 rfl
  | cons c r =>
    by_cases e1 : c = 10
    · subst e1; exact h1 r rfl
    by_cases e2 : c = 32
    · subst e2; exact h2 r rfl
    by_cases e3 : c = 59
    · subst e3; exact h3 r rfl
    cases hw : wordL (c :: r) with
    | error e => exact h4 c r e rfl ⟨e1, e3, e2⟩ hw
    | ok p => obtain ⟨w, n⟩ := p; exact h5 c r w n rfl ⟨e1, e3, e2⟩ hw
/-- Further down. -/
def Tkn.down (d : Int) (t : Tkn) : Tkn := ⟨t.w, t.line + d, t.col⟩
def downE (d : Int) : Except (Int × Int × Int) (List Tkn) → Except (Int × Int × Int) (List Tkn)
  | .error e => .error (e.1 + d, e.2.1, e.2.2)
  | .ok ts => .ok (ts.map (Tkn.down d))
theorem downE_cons (d : Int) (t : Tkn) (x : Except (Int × Int × Int) (List Tkn)) : downE d (consW t x) = consW (t.down d) (downE d x) := by cases x <;> rfl
theorem LX_down (d : Int) : ∀ (k : Nat) (l : List UInt8) (a b : Int), l.length ≤ k → LX l (a + d) b = downE d (LX l a b)
  | k, l, a, b, hk => by
    refine lex_cases (P := fun l => l.length ≤ k → LX l (a + d) b = downE d (LX l a b)) l ?_ ?_ ?_ ?_ ?_ ?_ hk
    · rintro rfl _; rfl
    · rintro r rfl hk
      obtain ⟨k, rfl⟩ : ∃ j, k = j + 1 := ⟨k - 1, by rw [List.length_cons] at hk; omega⟩
      rw [LX_line, LX_line, ← LX_down d k r (a + 1) 1 (by rw [List.length_cons] at hk; omega), show a + 1 + d = a + d + 1 by omega]
    · rintro r rfl hk
      obtain ⟨k, rfl⟩ : ∃ j, k = j + 1 := ⟨k - 1, by rw [List.length_cons] at hk; omega⟩
      rw [LX_blank, LX_blank, ← LX_down d k r a (b + 1) (by rw [List.length_cons] at hk; omega)]
    · rintro r rfl hk
      obtain ⟨k, rfl⟩ : ∃ j, k = j + 1 := ⟨k - 1, by rw [List.length_cons] at hk; omega⟩
      have hp := spanL_pos (q := no10) (c := 59) (r := r) (by decide)
      rw [LX_rem, LX_rem, ← LX_down d k _ a _ (by rw [List.length_drop]; omega)]
    · rintro c r e rfl hc hw hk
      rw [LX_err hc hw, LX_err hc hw]
      rfl
    · rintro c r w n rfl hc hw hk
      obtain ⟨k, rfl⟩ : ∃ j, k = j + 1 := ⟨k - 1, by rw [List.length_cons] at hk; omega⟩
      obtain ⟨hn, _⟩ := wordL_len hw
      rw [LX_word hc hw, LX_word hc hw, downE_cons, ← LX_down d k _ a _ (by rw [List.length_drop]; omega)]
      rfl
/-! ### two sources -/
def joinE (x : Except (Int × Int × Int) (List Tkn)) (y : Except (Int × Int × Int) (List Tkn)) : Except (Int × Int × Int) (List Tkn) :=
  match x with
  | .error e => .error e
  | .ok ts => match y with
    | .error e => .error e
    | .ok us => .ok (ts ++ us)
theorem joinE_cons (t : Tkn) (x y : Except (Int × Int × Int) (List Tkn)) : joinE (consW t x) y = consW t (joinE x y) := by cases x <;> cases y <;> rfl
theorem count_skip {l : List UInt8} {n : Nat} (h : ∀ c ∈ l.take n, c ≠ 10) : (l.drop n).count 10 = l.count 10 := by
  conv => rhs; rw [← List.take_append_drop n l, List.count_append]
  rw [List.count_eq_zero.2 fun hm => h 10 hm rfl, Nat.zero_add]
theorem no10_mem {l : List UInt8} : ∀ c ∈ l.take (spanL no10 l), c ≠ 10 := fun c hc => by
  have := spanL_mem (q := no10) l c hc
  unfold no10 at this
  simpa using this
theorem LX_join (r : List UInt8) : ∀ (k : Nat) (l : List UInt8) (a b : Int), l.length ≤ k → LX (l ++ 10 :: r) a b = joinE (LX l a b) (LX r (a + (l.count 10 : Nat) + 1) 1)
  | k, l, a, b, hk => by
    refine lex_cases (P := fun l => l.length ≤ k → LX (l ++ 10 :: r) a b = joinE (LX l a b) (LX r (a + (l.count 10 : Nat) + 1) 1)) l ?_ ?_ ?_ ?_ ?_ ?_ hk
    · rintro rfl _
      rw [List.nil_append, LX_line, LX_nil, List.count_nil, show a + ((0 : Nat) : Int) + 1 = a + 1 by omega]
      cases LX r (a + 1) 1 <;> rfl
    · rintro q rfl hk
      obtain ⟨k, rfl⟩ : ∃ j, k = j + 1 := ⟨k - 1, by rw [List.length_cons] at hk; omega⟩
      rw [List.cons_append, LX_line, LX_line, LX_join r k q (a + 1) 1 (by rw [List.length_cons] at hk; omega), List.count_cons_self]
      rw [show a + 1 + ((q.count 10 : Nat) : Int) + 1 = a + ((q.count 10 + 1 : Nat) : Int) + 1 by omega]
    · rintro q rfl hk
      obtain ⟨k, rfl⟩ : ∃ j, k = j + 1 := ⟨k - 1, by rw [List.length_cons] at hk; omega⟩
      rw [List.cons_append, LX_blank, LX_blank, LX_join r k q a (b + 1) (by rw [List.length_cons] at hk; omega), List.count_cons_of_ne (by decide)]
    · rintro q rfl hk
      obtain ⟨k, rfl⟩ : ∃ j, k = j + 1 := ⟨k - 1, by rw [List.length_cons] at hk; omega⟩
      have hp := spanL_pos (q := no10) (c := 59) (r := q) (by decide)
      have hle := spanL_le no10 (59 :: q)
      have hb := spanL_behind (q := no10) (59 :: q) (10 :: r) (by simp [no10])
      rw [List.cons_append] at hb ⊢
      rw [LX_rem, hb, LX_rem, ← List.cons_append, List.drop_append_of_le_length hle, LX_join r k _ a _ (by rw [List.length_drop]; omega), count_skip no10_mem]
    · rintro c q e rfl hc hw hk
      have hb := wordL_behind (c :: q) r (by simp)
      rw [hw] at hb
      rw [LX_err hc hw]
      rw [List.cons_append] at hb ⊢
      rw [LX_err hc hb]
      rfl
    · rintro c q w n rfl hc hw hk
      obtain ⟨k, rfl⟩ : ∃ j, k = j + 1 := ⟨k - 1, by rw [List.length_cons] at hk; omega⟩
      obtain ⟨hn, hnl⟩ := wordL_len hw
      obtain ⟨_, h10⟩ := wordL_spell hw
      have hb := wordL_behind (c :: q) r (by simp)
      rw [hw] at hb
      rw [LX_word hc hw, joinE_cons, ← count_skip h10, ← LX_join r k _ a _ (by rw [List.length_drop]; omega), ← List.drop_append_of_le_length hnl]
      rw [List.cons_append] at hb ⊢
      rw [LX_word hc hb]
/-- Two sources with a line end between. -/
theorem lexL_join (l r : List UInt8) : lexL (l ++ 10 :: r) = joinE (lexL l) (downE (1 + (l.count 10 : Nat)) (lexL r)) := by
  rw [lexL_LX, lexL_LX, lexL_LX, LX_join r _ l 1 1 (Nat.le_refl _), ← LX_down _ _ r 1 1 (Nat.le_refl _)]
  rw [show (1 : Int) + ((l.count 10 : Nat) : Int) + 1 = 1 + (1 + ((l.count 10 : Nat) : Int)) by omega]
/-! ### places -/
/-- Where one is behind some bytes. -/
def adv : List UInt8 → Int → Int → Int × Int
  | [], a, b => (a, b)
  | c :: r, a, b => if c = 10 then adv r (a + 1) 1 else adv r a (b + 1)
theorem adv_plain : ∀ (p r : List UInt8) (a b : Int), (∀ c ∈ p, c ≠ 10) → adv (p ++ r) a b = adv r a (b + (p.length : Nat))
  | [], r, a, b, _ => by
    rw [List.nil_append, List.length_nil, show b + ((0 : Nat) : Int) = b by omega]
  | c :: p, r, a, b, h => by
    rw [List.cons_append]
    conv => lhs; unfold adv
    rw [if_neg (h c List.mem_cons_self), adv_plain p r a (b + 1) fun d hd => h d (List.mem_cons_of_mem _ hd), List.length_cons, show b + 1 + ((p.length : Nat) : Int) = b + ((p.length + 1 : Nat) : Int) by omega]
theorem adv_take {l : List UInt8} {n m : Nat} (h : n ≤ m) (h10 : ∀ c ∈ l.take n, c ≠ 10) (hl : n ≤ l.length) (a b : Int) : adv (l.take m) a b = adv ((l.drop n).take (m - n)) a (b + (n : Nat)) := by
  obtain ⟨j, rfl⟩ : ∃ j, m = n + j := ⟨m - n, by omega⟩
  rw [List.take_add, adv_plain _ _ _ _ h10, List.length_take, Nat.min_eq_left hl, Nat.add_sub_cancel_left]
theorem consW_ok {t : Tkn} {x : Except (Int × Int × Int) (List Tkn)} {ts : List Tkn} (h : consW t x = .ok ts) : ∃ us, x = .ok us ∧ ts = t :: us := by
  cases x with
  | error e => cases h
  | ok us => injection h with h; exact ⟨us, rfl, h.symm⟩
/-- Cut ahead of a word. -/
theorem LX_cut : ∀ (k : Nat) (l : List UInt8) (a b : Int) (ts : List Tkn) (j : Nat) (t : Tkn), l.length ≤ k → LX l a b = .ok ts → ts[j]? = some t →
    ∃ i, i < l.length ∧ adv (l.take i) a b = (t.line, t.col) ∧ LX (l.take i) a b = .ok (ts.take j)
  | k, l, a, b, ts, j, t, hk, h, ht => by
    refine lex_cases (P := fun l => l.length ≤ k → LX l a b = .ok ts → ∃ i, i < l.length ∧ adv (l.take i) a b = (t.line, t.col) ∧ LX (l.take i) a b = .ok (ts.take j)) l ?_ ?_ ?_ ?_ ?_ ?_ hk h
    · rintro rfl _ h
      rw [LX_nil] at h
      injection h with h
      subst h
      simp at ht
    · rintro q rfl hk h
      obtain ⟨k, rfl⟩ : ∃ j, k = j + 1 := ⟨k - 1, by rw [List.length_cons] at hk; omega⟩
      rw [LX_line] at h
      obtain ⟨i, h1, h2, h3⟩ := LX_cut k q (a + 1) 1 ts j t (by rw [List.length_cons] at hk; omega) h ht
      refine ⟨i + 1, by rw [List.length_cons]; omega, ?_, ?_⟩
      · rw [List.take_succ_cons]
        exact h2
      · rw [List.take_succ_cons]
        exact h3
    · rintro q rfl hk h
      obtain ⟨k, rfl⟩ : ∃ j, k = j + 1 := ⟨k - 1, by rw [List.length_cons] at hk; omega⟩
      rw [LX_blank] at h
      obtain ⟨i, h1, h2, h3⟩ := LX_cut k q a (b + 1) ts j t (by rw [List.length_cons] at hk; omega) h ht
      refine ⟨i + 1, by rw [List.length_cons]; omega, ?_, ?_⟩
      · rw [List.take_succ_cons]
        exact h2
      · rw [List.take_succ_cons]
        exact h3
    · rintro q rfl hk h
      obtain ⟨k, rfl⟩ : ∃ j, k = j + 1 := ⟨k - 1, by rw [List.length_cons] at hk; omega⟩
      have hp := spanL_pos (q := no10) (c := 59) (r := q) (by decide)
      have hle := spanL_le no10 (59 :: q)
      rw [LX_rem] at h
      obtain ⟨i, h1, h2, h3⟩ := LX_cut k _ a _ ts j t (by rw [List.length_drop]; omega) h ht
      rw [List.length_drop] at h1
      refine ⟨spanL no10 (59 :: q) + i, by omega, ?_, ?_⟩
      · rw [adv_take (Nat.le_add_right _ _) no10_mem hle, Nat.add_sub_cancel_left]
        exact h2
      · have hs := spanL_take (q := no10) (59 :: q) (spanL no10 (59 :: q) + i) (Nat.le_add_right _ _)
        obtain ⟨m, hm⟩ : ∃ m, spanL no10 (59 :: q) + i = m + 1 := ⟨spanL no10 (59 :: q) + i - 1, by omega⟩
        have e : (59 :: q).take (spanL no10 (59 :: q) + i) = 59 :: q.take m := by rw [hm, List.take_succ_cons]
        have e2 : ((59 :: q).take (spanL no10 (59 :: q) + i)).drop (spanL no10 (59 :: q)) = ((59 :: q).drop (spanL no10 (59 :: q))).take i := by
          rw [List.drop_take, Nat.add_sub_cancel_left]
        rw [e] at hs e2 ⊢
        rw [LX_rem, hs, e2]
        exact h3
    · rintro c q e rfl hc hw hk h
      rw [LX_err hc hw] at h
      cases h
    · rintro c q w n rfl hc hw hk h
      obtain ⟨k, rfl⟩ : ∃ j, k = j + 1 := ⟨k - 1, by rw [List.length_cons] at hk; omega⟩
      obtain ⟨hn, hnl⟩ := wordL_len hw
      obtain ⟨_, h10⟩ := wordL_spell hw
      rw [LX_word hc hw] at h
      obtain ⟨us, hu, rfl⟩ := consW_ok h
      cases j with
      | zero =>
        refine ⟨0, by rw [List.length_cons]; omega, ?_, rfl⟩
        injection ht with ht
        subst ht
        rfl
      | succ j =>
        rw [List.getElem?_cons_succ] at ht
        obtain ⟨i, h1, h2, h3⟩ := LX_cut k _ a _ us j t (by rw [List.length_drop]; omega) hu ht
        rw [List.length_drop] at h1
        refine ⟨n + i, by omega, ?_, ?_⟩
        · rw [adv_take (Nat.le_add_right _ _) h10 hnl, Nat.add_sub_cancel_left]
          exact h2
        · have hw2 := wordL_take hw (m := n + i) (Nat.le_add_right _ _)
          obtain ⟨m, hm⟩ : ∃ m, n + i = m + 1 := ⟨n + i - 1, by omega⟩
          have e : (c :: q).take (n + i) = c :: q.take m := by rw [hm, List.take_succ_cons]
          have e2 : ((c :: q).take (n + i)).drop n = ((c :: q).drop n).take i := by rw [List.drop_take, Nat.add_sub_cancel_left]
          rw [e] at hw2 e2 ⊢
          rw [LX_word hc hw2, e2, h3]
          rfl
/-- Where a place stands: its line begins behind a line end, or at the front. -/
theorem adv_line : ∀ (l : List UInt8) (a b : Int), ∃ p, p ≤ l.length ∧ (adv l a b).1 = a + ((l.take p).count 10 : Nat) ∧ (∀ c ∈ l.drop p, c ≠ 10) ∧
    ((p = 0 ∧ (adv l a b).2 = b + (l.length : Nat)) ∨ (1 ≤ p ∧ l[p - 1]? = some 10 ∧ (adv l a b).2 = 1 + ((l.length - p : Nat) : Int)))
  | [], a, b => ⟨0, Nat.le_refl _, by simp [adv], by simp, .inl ⟨rfl, by simp [adv]⟩⟩
  | c :: r, a, b => by
    by_cases hc : c = 10
    · subst hc
      have e : adv (10 :: r) a b = adv r (a + 1) 1 := rfl
      rw [e]
      obtain ⟨p, h1, h2, h3, h4⟩ := adv_line r (a + 1) 1
      refine ⟨p + 1, by rw [List.length_cons]; omega, ?_, ?_, .inr ⟨by omega, ?_, ?_⟩⟩
      · rw [h2, List.take_succ_cons, List.count_cons_self]
        omega
      · rw [List.drop_succ_cons]
        exact h3
      · rw [Nat.add_sub_cancel]
        rcases h4 with ⟨rfl, _⟩ | ⟨h5, h6, _⟩
        · rfl
        · obtain ⟨m, rfl⟩ : ∃ m, p = m + 1 := ⟨p - 1, by omega⟩
          rw [List.getElem?_cons_succ]
          exact h6
      · rw [List.length_cons]
        rcases h4 with ⟨rfl, h5⟩ | ⟨h5, h6, h7⟩
        · rw [h5]; omega
        · rw [h7]; omega
    · have e : adv (c :: r) a b = adv r a (b + 1) := by
        conv => lhs; unfold adv
        rw [if_neg hc]
      rw [e]
      obtain ⟨p, h1, h2, h3, h4⟩ := adv_line r a (b + 1)
      rcases h4 with ⟨rfl, h5⟩ | ⟨h5, h6, h7⟩
      · refine ⟨0, by omega, ?_, ?_, .inl ⟨rfl, ?_⟩⟩
        · rw [h2]; rfl
        · intro d hd
          rw [List.drop_zero, List.mem_cons] at hd
          rcases hd with rfl | hd
          · exact hc
          · exact h3 d hd
        · rw [h5, List.length_cons]
          omega
      · refine ⟨p + 1, by rw [List.length_cons]; omega, ?_, ?_, .inr ⟨by omega, ?_, ?_⟩⟩
        · rw [h2, List.take_succ_cons, List.count_cons_of_ne hc]
        · rw [List.drop_succ_cons]
          exact h3
        · rw [Nat.add_sub_cancel]
          obtain ⟨m, rfl⟩ : ∃ m, p = m + 1 := ⟨p - 1, by omega⟩
          rw [List.getElem?_cons_succ]
          exact h6
        · rw [List.length_cons, h7]
          omega
/-! ### places rise -/
def plLt (a b c d : Int) : Prop := a < c ∨ a = c ∧ b < d
def plLe (a b c d : Int) : Prop := a < c ∨ a = c ∧ b ≤ d
theorem LX_rise : ∀ (k : Nat) (l : List UInt8) (a b : Int) , l.length ≤ k → 1 ≤ b →
    (∀ x y e, LX l a b = .error (x, y, e) → a ≤ x ∧ 1 ≤ y ∧ (e = 4 ∨ e = 9)) ∧
    (∀ ts, LX l a b = .ok ts → (∀ t ∈ ts, plLe a b t.line t.col) ∧ ts.Pairwise (fun s t => plLt s.line s.col t.line t.col))
  | k, l, a, b, hk, hb => by
    refine lex_cases (P := fun l => l.length ≤ k → (∀ x y e, LX l a b = .error (x, y, e) → a ≤ x ∧ 1 ≤ y ∧ (e = 4 ∨ e = 9)) ∧ (∀ ts, LX l a b = .ok ts → (∀ t ∈ ts, plLe a b t.line t.col) ∧ ts.Pairwise (fun s t => plLt s.line s.col t.line t.col))) l ?_ ?_ ?_ ?_ ?_ ?_ hk
    · rintro rfl _
      refine ⟨fun x y e h => ?_, fun ts h => ?_⟩
      · rw [LX_nil] at h; cases h
      · rw [LX_nil] at h
        injection h with h
        subst h
        exact ⟨by simp, List.Pairwise.nil⟩
    · rintro r rfl hk
      obtain ⟨k, rfl⟩ : ∃ j, k = j + 1 := ⟨k - 1, by rw [List.length_cons] at hk; omega⟩
      obtain ⟨h1, h2⟩ := LX_rise k r (a + 1) 1 (by rw [List.length_cons] at hk; omega) (by omega)
      rw [LX_line]
      refine ⟨fun x y e h => ?_, fun ts h => ?_⟩
      · obtain ⟨h3, h4, h5⟩ := h1 x y e h
        exact ⟨by omega, h4, h5⟩
      · obtain ⟨h3, h4⟩ := h2 ts h
        refine ⟨fun t ht => ?_, h4⟩
        rcases h3 t ht with h5 | ⟨h5, h6⟩
        · exact .inl (by omega)
        · exact .inl (by omega)
    · rintro r rfl hk
      obtain ⟨k, rfl⟩ : ∃ j, k = j + 1 := ⟨k - 1, by rw [List.length_cons] at hk; omega⟩
      obtain ⟨h1, h2⟩ := LX_rise k r a (b + 1) (by rw [List.length_cons] at hk; omega) (by omega)
      rw [LX_blank]
      refine ⟨h1, fun ts h => ?_⟩
      obtain ⟨h3, h4⟩ := h2 ts h
      refine ⟨fun t ht => ?_, h4⟩
      rcases h3 t ht with h5 | ⟨h5, h6⟩
      · exact .inl h5
      · exact .inr ⟨h5, by omega⟩
    · rintro r rfl hk
      obtain ⟨k, rfl⟩ : ∃ j, k = j + 1 := ⟨k - 1, by rw [List.length_cons] at hk; omega⟩
      have hp := spanL_pos (q := no10) (c := 59) (r := r) (by decide)
      rw [LX_rem]
      obtain ⟨h1, h2⟩ := LX_rise k ((59 :: r).drop (spanL no10 (59 :: r))) a (b + spanL no10 (59 :: r)) (by rw [List.length_drop]; omega) (by omega)
      refine ⟨h1, fun ts h => ?_⟩
      obtain ⟨h3, h4⟩ := h2 ts h
      refine ⟨fun t ht => ?_, h4⟩
      rcases h3 t ht with h5 | ⟨h5, h6⟩
      · exact .inl h5
      · exact .inr ⟨h5, by omega⟩
    · rintro c r e rfl hc hw hk
      rw [LX_err hc hw]
      refine ⟨fun x y e' h => ?_, fun ts h => by cases h⟩
      injection h with h
      simp only [Prod.mk.injEq] at h
      obtain ⟨rfl, rfl, rfl⟩ := h
      exact ⟨Int.le_refl _, hb, wordL_err hw⟩
    · rintro c r w n rfl hc hw hk
      obtain ⟨k, rfl⟩ : ∃ j, k = j + 1 := ⟨k - 1, by rw [List.length_cons] at hk; omega⟩
      obtain ⟨hn, _⟩ := wordL_len hw
      rw [LX_word hc hw]
      obtain ⟨h1, h2⟩ := LX_rise k ((c :: r).drop n) a (b + n) (by rw [List.length_drop]; omega) (by omega)
      cases hx : LX ((c :: r).drop n) a (b + n) with
      | error q =>
        obtain ⟨x', y', e'⟩ := q
        refine ⟨fun x y e h => ?_, fun ts h => by cases h⟩
        injection h with h
        simp only [Prod.mk.injEq] at h
        obtain ⟨rfl, rfl, rfl⟩ := h
        exact h1 _ _ _ hx
      | ok us =>
        refine ⟨fun x y e h => (by cases h), fun ts h => ?_⟩
        injection h with h
        subst h
        obtain ⟨h3, h4⟩ := h2 us hx
        refine ⟨fun t ht => ?_, List.Pairwise.cons (fun t ht => ?_) h4⟩
        · rw [List.mem_cons] at ht
          rcases ht with rfl | ht
          · exact .inr ⟨rfl, Int.le_refl _⟩
          · rcases h3 t ht with h5 | ⟨h5, h6⟩
            · exact .inl h5
            · exact .inr ⟨h5, by omega⟩
        · rcases h3 t ht with h5 | ⟨h5, h6⟩
          · exact .inl h5
          · exact .inr ⟨h5, by show b < t.col; omega⟩
/-! ### words told again -/
/-- Words that were read, somewhere. -/
def WasRead (w : Wd) : Prop := ∃ c r n, begC c ∧ wordL (c :: r) = .ok (w, n)
theorem LX_was : ∀ (k : Nat) (l : List UInt8) (a b : Int) (ts : List Tkn), l.length ≤ k → LX l a b = .ok ts → ∀ t ∈ ts, WasRead t.w
  | k, l, a, b, ts, hk, h => by
    refine lex_cases (P := fun l => l.length ≤ k → LX l a b = .ok ts → ∀ t ∈ ts, WasRead t.w) l ?_ ?_ ?_ ?_ ?_ ?_ hk h
    · rintro rfl _ h
      rw [LX_nil] at h
      injection h with h
      subst h
      simp
    · rintro q rfl hk h
      obtain ⟨k, rfl⟩ : ∃ j, k = j + 1 := ⟨k - 1, by rw [List.length_cons] at hk; omega⟩
      exact LX_was k q (a + 1) 1 ts (by rw [List.length_cons] at hk; omega) h
    · rintro q rfl hk h
      obtain ⟨k, rfl⟩ : ∃ j, k = j + 1 := ⟨k - 1, by rw [List.length_cons] at hk; omega⟩
      exact LX_was k q a (b + 1) ts (by rw [List.length_cons] at hk; omega) h
    · rintro q rfl hk h
      obtain ⟨k, rfl⟩ : ∃ j, k = j + 1 := ⟨k - 1, by rw [List.length_cons] at hk; omega⟩
      have hp := spanL_pos (q := no10) (c := 59) (r := q) (by decide)
      rw [LX_rem] at h
      exact LX_was k _ a _ ts (by rw [List.length_drop]; omega) h
    · rintro c q e rfl hc hw hk h
      rw [LX_err hc hw] at h
      cases h
    · rintro c q w n rfl hc hw hk h
      obtain ⟨k, rfl⟩ : ∃ j, k = j + 1 := ⟨k - 1, by rw [List.length_cons] at hk; omega⟩
      obtain ⟨hn, _⟩ := wordL_len hw
      rw [LX_word hc hw] at h
      obtain ⟨us, hu, rfl⟩ := consW_ok h
      intro t ht
      rw [List.mem_cons] at ht
      rcases ht with rfl | ht
      · exact ⟨c, q, n, hc, hw⟩
      · exact LX_was k _ a _ us (by rw [List.length_drop]; omega) hu t ht
/-- What stands between words: it is passed. -/
def Passed (sep : List UInt8) : Prop := (∃ c r, sep = c :: r ∧ (c = 10 ∨ c = 32)) ∧ ∀ r a b, ∃ a' b', LX (sep ++ r) a b = LX r a' b'
theorem passed_blank : Passed [32] := ⟨⟨32, [], rfl, .inr rfl⟩, fun r a b => ⟨a, b + 1, LX_blank r a b⟩⟩
theorem passed_line : Passed [10] := ⟨⟨10, [], rfl, .inl rfl⟩, fun r a b => ⟨a + 1, 1, LX_line r a b⟩⟩
/-- ' ; a remark' and a line end. -/
def remB : List UInt8 := [32, 59, 32, 97, 32, 114, 101, 109, 97, 114, 107, 10]
theorem passed_rem : Passed remB := ⟨⟨32, _, rfl, .inr rfl⟩, fun r a b => by
  have e : remB ++ r = 32 :: (59 :: ([32, 97, 32, 114, 101, 109, 97, 114, 107] ++ 10 :: r)) := rfl
  have hs : spanL no10 (59 :: ([32, 97, 32, 114, 101, 109, 97, 114, 107] ++ 10 :: r)) = 10 :=
    spanL_app (q := no10) [59, 32, 97, 32, 114, 101, 109, 97, 114, 107] (10 :: r) (by decide) (by simp [no10])
  refine ⟨a + 1, 1, ?_⟩
  rw [e, LX_blank, LX_rem, hs]
  exact LX_line r _ _⟩
/-- Words with something between them. -/
def joinB (sep : List UInt8) : List (List UInt8) → List UInt8
  | [] => []
  | [x] => x
  | x :: y :: r => x ++ (sep ++ joinB sep (y :: r))
theorem LX_back {sep : List UInt8} (hp : Passed sep) : ∀ (ws : List Wd) (a b : Int), (∀ w ∈ ws, WasRead w) → ∃ ts, LX (joinB sep (ws.map spellW)) a b = .ok ts ∧ ts.map Tkn.w = ws
  | [], a, b, _ => ⟨[], rfl, rfl⟩
  | w :: ws, a, b, h => by
    obtain ⟨c, q, n, hc, hw⟩ := h w List.mem_cons_self
    obtain ⟨hn, hnl⟩ := wordL_len hw
    obtain ⟨hs, _⟩ := wordL_spell hw
    obtain ⟨m, rfl⟩ : ∃ m, n = m + 1 := ⟨n - 1, by omega⟩
    have key : ∀ r, Stop r → LX (spellW w ++ r) a b = consW ⟨w, a, b⟩ (LX r a (b + ((m + 1 : Nat) : Int))) := fun r hr => by
      have hag := wordL_again hw hr
      rw [hs]
      have hlen : ((c :: q).take (m + 1)).length = m + 1 := by rw [List.length_take]; omega
      have hd : ((c :: q).take (m + 1) ++ r).drop (m + 1) = r := by
        rw [List.drop_append_of_le_length (by omega), List.drop_of_length_le (by omega), List.nil_append]
      rw [List.take_succ_cons, List.cons_append] at hag hd ⊢
      rw [LX_word hc hag, hd]
    cases ws with
    | nil =>
      have := key [] (fun c hc => by simp at hc)
      rw [List.append_nil] at this
      refine ⟨[⟨w, a, b⟩], ?_, rfl⟩
      show LX (spellW w) a b = _
      rw [this]
      rfl
    | cons x ws =>
      obtain ⟨⟨d, z, hz, hd⟩, hpass⟩ := hp
      have hk := key (sep ++ joinB sep ((x :: ws).map spellW)) (fun c hc => by
        rw [hz, List.cons_append, List.head?_cons] at hc
        injection hc with hc
        subst hc
        exact hd)
      obtain ⟨a', b', he⟩ := hpass (joinB sep ((x :: ws).map spellW)) a (b + ((m + 1 : Nat) : Int))
      obtain ⟨ts, h1, h2⟩ := LX_back ⟨⟨d, z, hz, hd⟩, hpass⟩ (x :: ws) a' b' fun y hy => h y (List.mem_cons_of_mem _ hy)
      refine ⟨⟨w, a, b⟩ :: ts, ?_, ?_⟩
      · show LX (spellW w ++ (sep ++ joinB sep ((x :: ws).map spellW))) a b = _
        rw [hk, he, h1]
        rfl
      · rw [List.map_cons, h2]
/-! ### how many bytes words have -/
theorem LX_bytes : ∀ (k : Nat) (l : List UInt8) (a b : Int) (ts : List Tkn), l.length ≤ k → LX l a b = .ok ts → ts.length + (ts.map fun t => (spellW t.w).length).sum ≤ 2 * l.length ∧ ts.length ≤ l.length
  | k, l, a, b, ts, hk, h => by
    refine lex_cases (P := fun l => l.length ≤ k → LX l a b = .ok ts → ts.length + (ts.map fun t => (spellW t.w).length).sum ≤ 2 * l.length ∧ ts.length ≤ l.length) l ?_ ?_ ?_ ?_ ?_ ?_ hk h
    · rintro rfl _ h
      rw [LX_nil] at h
      injection h with h
      subst h
      simp
    · rintro q rfl hk h
      obtain ⟨k, rfl⟩ : ∃ j, k = j + 1 := ⟨k - 1, by rw [List.length_cons] at hk; omega⟩
      have := LX_bytes k q (a + 1) 1 ts (by rw [List.length_cons] at hk; omega) h
      rw [List.length_cons]
      omega
    · rintro q rfl hk h
      obtain ⟨k, rfl⟩ : ∃ j, k = j + 1 := ⟨k - 1, by rw [List.length_cons] at hk; omega⟩
      have := LX_bytes k q a (b + 1) ts (by rw [List.length_cons] at hk; omega) h
      rw [List.length_cons]
      omega
    · rintro q rfl hk h
      obtain ⟨k, rfl⟩ : ∃ j, k = j + 1 := ⟨k - 1, by rw [List.length_cons] at hk; omega⟩
      have hp := spanL_pos (q := no10) (c := 59) (r := q) (by decide)
      rw [LX_rem] at h
      have := LX_bytes k _ a _ ts (by rw [List.length_drop]; omega) h
      rw [List.length_drop] at this
      omega
    · rintro c q e rfl hc hw hk h
      rw [LX_err hc hw] at h
      cases h
    · rintro c q w n rfl hc hw hk h
      obtain ⟨k, rfl⟩ : ∃ j, k = j + 1 := ⟨k - 1, by rw [List.length_cons] at hk; omega⟩
      obtain ⟨hn, hnl⟩ := wordL_len hw
      obtain ⟨hs, _⟩ := wordL_spell hw
      rw [LX_word hc hw] at h
      obtain ⟨us, hu, rfl⟩ := consW_ok h
      have := LX_bytes k _ a _ us (by rw [List.length_drop]; omega) hu
      rw [List.length_drop] at this
      rw [List.length_cons, List.map_cons, List.sum_cons, hs, List.length_take]
      omega
end Go.Proofs.YtkjndabbkfbkaaaGreatDoor
