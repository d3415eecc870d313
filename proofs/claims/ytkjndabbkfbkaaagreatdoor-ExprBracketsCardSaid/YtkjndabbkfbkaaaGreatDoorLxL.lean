/- Words of a source, in plain words: which word begins a text, all words of a text, their places. No program is named. -/
import Derived.Test.YtkjndabbkfbkaaaGreatDoorLx1
import Derived.Test.YtkjndabbkfbkaaaGreatDoorTkn
namespace Go.Proofs.YtkjndabbkfbkaaaGreatDoor
open Go Go.Lib

/-- How many bytes a number has. -/
def numLen (l : List UInt8) : Nat :=
  match l.drop (spanL digC l) with
  | 46 :: c :: r => if digC c then spanL digC l + (1 + spanL digC (c :: r)) else spanL digC l
  | _ => spanL digC l
def numW (l : List UInt8) : Except Int (Wd × Nat) :=
  match prsL (l.take (numLen l)) with
  | .ok v => .ok (⟨4, l.take (numLen l), v⟩, numLen l)
  | .error e => .error (if e = 9 then 9 else 4)
/-- How many bytes stand ahead of a text's end. -/
def txtSpan : Bool → List UInt8 → Nat
  | _, [] => 0
  | esc, c :: r => if (c == 34 && !esc) || !priC c then 0 else 1 + txtSpan (c == 92 && !esc) r
def txtW (l : List UInt8) : Except Int (Wd × Nat) :=
  if (l.drop (1 + txtSpan false l.tail)).head? = some 34 then
    match prsL (l.take (txtSpan false l.tail + 2)) with
    | .ok v => .ok (⟨5, l.tail.take (txtSpan false l.tail), v⟩, txtSpan false l.tail + 2)
    | .error _ => .error 4
  else .error 4
def twos : List (List UInt8) := [[60, 61], [62, 61], [60, 62], [46, 46]]
def ones : List UInt8 := [40, 41, 91, 93, 44, 58, 61, 60, 62, 43, 45, 42, 47]
def signW (l : List UInt8) : Except Int (Wd × Nat) :=
  if l.take 2 ∈ twos then .ok (⟨7, l.take 2, v0⟩, 2) else if l.take 1 ∈ ones.map fun c => [c] then .ok (⟨7, l.take 1, v0⟩, 1) else .error 4
/-- A name of at most twelve bytes, or none. -/
def shortW (w : Wd) (n : Nat) : Except Int (Wd × Nat) := if 12 < w.t.length then .error 4 else .ok (w, n)
/-- Does a name stand behind the first byte? -/
def markB (l : List UInt8) : Bool := match l with
  | _ :: c :: _ => lowC c
  | _ => false
/-- The word that a text begins with, and how many bytes it has. -/
def wordL (l : List UInt8) : Except Int (Wd × Nat) :=
  match l with
  | [] => .error 4
  | c :: r =>
    if lowC c then shortW ⟨1, l.take (spanL namC l), v0⟩ (spanL namC l)
    else if digC c then numW l
    else if c = 34 then txtW l
    else if c = 63 then (if markB l then shortW ⟨2, r.take (spanL namC r), v0⟩ (1 + spanL namC r) else .ok (⟨3, [], v0⟩, 1))
    else if c = 35 ∧ markB l = true then shortW ⟨6, r.take (spanL namC r), (5, 0, r.take (spanL namC r))⟩ (1 + spanL namC r)
    else signW l
/-- All words of a text that begins at a place: or the first that is none. -/
def lexGo : Nat → List UInt8 → Int → Int → Except (Int × Int × Int) (List Tkn)
  | 0, _, _, _ => .ok []
  | f + 1, l, line, col =>
    match l with
    | [] => .ok []
    | c :: r =>
      if c = 10 then lexGo f r (line + 1) 1
      else if c = 59 then lexGo f (l.drop (spanL (fun c => c != 10) l)) line (col + spanL (fun c => c != 10) l)
      else if c = 32 then lexGo f r line (col + 1)
      else match wordL l with
        | .error e => .error (line, col, e)
        | .ok (w, n) => match lexGo f (l.drop n) line (col + n) with
          | .error e => .error e
          | .ok ts => .ok (⟨w, line, col⟩ :: ts)
def lexL (l : List UInt8) : Except (Int × Int × Int) (List Tkn) := lexGo l.length l 1 1

theorem spanL_cons {q : UInt8 → Bool} {c : UInt8} {r : List UInt8} (h : q c = true) : spanL q (c :: r) = 1 + spanL q r := by
  unfold spanL
  rw [List.takeWhile_cons, if_pos h, List.length_cons]
  omega
theorem txtSpan_le : ∀ (b : Bool) (l : List UInt8), txtSpan b l ≤ l.length
  | _, [] => Nat.le_refl _
  | b, c :: r => by
    unfold txtSpan
    split
    · omega
    · have := txtSpan_le (c == 92 && !b) r
      rw [List.length_cons]
      omega
theorem numLen_pos {c : UInt8} {r : List UInt8} (h : digC c = true) : 1 ≤ numLen (c :: r) ∧ numLen (c :: r) ≤ (c :: r).length := by
  have h1 := spanL_cons (q := digC) (r := r) h
  have h2 := spanL_le digC (c :: r)
  unfold numLen
  split
  · rename_i d q e
    have h3 := congrArg List.length e
    rw [List.length_drop] at h3
    simp only [List.length_cons] at h3 h2 ⊢
    have h4 := spanL_le digC (d :: q)
    simp only [List.length_cons] at h4
    split <;> omega
  · omega
/-- A word has a byte, and no more than there are. -/
theorem wordL_len {l : List UInt8} {w : Wd} {n : Nat} (h : wordL l = .ok (w, n)) : 1 ≤ n ∧ n ≤ l.length := by
  unfold wordL at h
  cases l with
  | nil => cases h
  | cons c r =>
    simp only at h
    have hsh : ∀ {w' : Wd} {m : Nat}, shortW w' m = .ok (w, n) → m = n := fun {w' m} hh => by
      unfold shortW at hh
      split at hh
      · cases hh
      · injection hh with hh
        exact congrArg Prod.snd hh
    by_cases h1 : lowC c = true
    · rw [if_pos h1] at h
      have := hsh h
      have h2 := spanL_cons (q := namC) (r := r) (show namC c = true by unfold namC; rw [h1]; rfl)
      have h3 := spanL_le namC (c :: r)
      omega
    rw [if_neg h1] at h
    by_cases h2 : digC c = true
    · rw [if_pos h2] at h
      unfold numW at h
      split at h
      · injection h with h
        have := congrArg Prod.snd h
        have h3 := numLen_pos (r := r) h2
        simp only at this
        omega
      · cases h
    rw [if_neg h2] at h
    by_cases h3 : c = 34
    · rw [if_pos h3] at h
      unfold txtW at h
      split at h
      · rename_i hq
        split at h
        · injection h with h
          have := congrArg Prod.snd h
          simp only [List.tail_cons] at this hq
          have h5 : (1 + txtSpan false r) < (c :: r).length := by
            rw [List.head?_drop] at hq
            exact (List.getElem?_eq_some_iff.1 hq).1
          omega
        · cases h
      · cases h
    rw [if_neg h3] at h
    have hr := spanL_le namC r
    by_cases h4 : c = 63
    · rw [if_pos h4] at h
      split at h
      · have := hsh h
        rw [List.length_cons]
        omega
      · injection h with h
        have := congrArg Prod.snd h
        simp only at this
        rw [List.length_cons]
        omega
    rw [if_neg h4] at h
    by_cases h5 : c = 35 ∧ markB (c :: r) = true
    · rw [if_pos h5] at h
      have := hsh h
      rw [List.length_cons]
      omega
    rw [if_neg h5] at h
    unfold signW at h
    split at h
    · rename_i hm
      injection h with h
      have := congrArg Prod.snd h
      simp only at this
      have h6 : ((c :: r).take 2).length = 2 := by
        have : ∀ x ∈ twos, x.length = 2 := by decide
        exact this _ hm
      rw [List.length_take] at h6
      omega
    · split at h
      · injection h with h
        have := congrArg Prod.snd h
        simp only at this
        rw [List.length_cons]
        omega
      · cases h
end Go.Proofs.YtkjndabbkfbkaaaGreatDoor
