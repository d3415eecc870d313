/- Values: which texts are names, which are texts; which values may be: the program's, and the document's. -/
import Derived.Test.YtkjndabbkfbkaaaGreatDoorV0
import Derived.Test.YtkjndabbkfbkaaaGreatDoorShelf
import Derived.Lib.SpaceUEq
namespace Go.Proofs.YtkjndabbkfbkaaaGreatDoor
open Go Go.RowKit Go.Lib

def isLow (n : Nat) : Bool := decide (97 ≤ n ∧ n ≤ 122)
def isDig (n : Nat) : Bool := decide (48 ≤ n ∧ n ≤ 57)
/-- No byte of a name. -/
def badN (n : Nat) : Bool := !isLow n && !isDig n
/-- No byte of a text. -/
def badT (n : Nat) : Bool := decide (n < 32 ∨ 126 < n)
/-- Is it a name? -/
def nameB (s : ByteArray) : Bool := match s.data.toList with
  | [] => false
  | c :: r => decide (s.size ≤ 12) && isLow c.toNat && !(r.any fun b => badN b.toNat)
/-- Is it a text? -/
def textB (s : ByteArray) : Bool := decide (s.size ≤ 200) && !(s.data.toList.any fun b => badT b.toNat)
/-- May a value be? -/
def mayB (v : Vl) : Bool :=
  if v.k = 0 then decide (v.n = 0) && decide (v.s.size = 0) else if v.k = 1 ∨ v.k = 2 then decide (v.s.size = 0) else if v.k = 3 then decide (v.n = 0) && textB v.s
  else if v.k = 4 then decide (v.s.size = 0) && decide (v.n = 0 ∨ v.n = 1) else if v.k = 5 then decide (v.n = 0) && nameB v.s else false

theorem get_drop {s : ByteArray} {pos : Nat} (h : pos < s.size) : s.data.toList.drop pos = s.get! pos :: s.data.toList.drop (pos + 1) := by
  have h' : pos < s.data.toList.length := by simpa using h
  rw [List.drop_eq_getElem_cons h']
  congr 1
  simp only [ByteArray.get!]
  rw [getElem!_pos s.data pos (by simpa using h)]
  simp

/-- Where all runes beyond ASCII are sought, a text has one that is sought just if it has such a byte. -/
theorem idx_from (p : Nat → Bool) (hp : ∀ r, 128 ≤ r → p r = true) (s : ByteArray) : ∀ (f pos : Nat), s.size ≤ pos + f →
    decide (0 ≤ idxFuncFrom p true s f pos) = (s.data.toList.drop pos).any (fun b => p b.toNat)
  | 0, pos, h => by
    rw [List.drop_eq_nil_of_le (by simpa using h)]
    rfl
  | f + 1, pos, h => by
    unfold idxFuncFrom
    by_cases hlt : pos < s.size
    · rw [if_pos hlt, get_drop hlt, List.any_cons]
      rcases decodeN_cases (s.size - pos) (s.get! pos).toNat (s.get! (pos + 1)).toNat (s.get! (pos + 2)).toNat (s.get! (pos + 3)).toNat with ⟨c, e⟩ | e'
      · rw [← decode_at] at e
        rw [e]
        cases hq : p (s.get! pos).toNat
        · simp only [Bool.false_eq_true, if_false, Bool.false_or]
          exact idx_from p hp s f (pos + 1) (by omega)
        · simp
      · have hr : 128 ≤ (Utf8.decode s pos).1 := by
          rw [decode_at]
          rcases e' with ⟨_, _, _, _, e⟩ | ⟨_, _, _, _, _, e⟩ | ⟨_, e⟩ | e
          · rw [e]; assumption
          · rw [e]; simp only; omega
          · omega
          · rw [e]; simp
        rw [hp _ hr, if_pos rfl]
        by_cases hb : (s.get! pos).toNat < 128
        · exfalso
          have : decodeN (s.size - pos) (s.get! pos).toNat (s.get! (pos + 1)).toNat (s.get! (pos + 2)).toNat (s.get! (pos + 3)).toNat = ((s.get! pos).toNat, 1) := by
            unfold decodeN
            rw [if_pos hb]
          rw [decode_at, this] at hr
          simp only at hr
          omega
        · rw [hp _ (by omega)]
          simp
    · rw [if_neg hlt, List.drop_eq_nil_of_le (by simpa using Nat.le_of_not_lt hlt)]
      rfl
theorem idx_bytes (p : Nat → Bool) (hp : ∀ r, 128 ≤ r → p r = true) (s : ByteArray) : decide (0 ≤ idxFunc p true s) = s.data.toList.any (fun b => p b.toNat) := by
  have := idx_from p hp s s.size 0 (by omega)
  rw [List.drop_zero] at this
  exact this

theorem badN_hi (r : Nat) (h : 128 ≤ r) : badN r = true := by
  have h1 : ¬ (97 ≤ r ∧ r ≤ 122) := by omega
  have h2 : ¬ (48 ≤ r ∧ r ≤ 57) := by omega
  simp [badN, isLow, isDig, h1, h2]
theorem badT_hi (r : Nat) (h : 128 ≤ r) : badT r = true := by
  have h1 : r < 32 ∨ 126 < r := by omega
  simp [badT, h1]

theorem badN_fn (x : Nat) (W : World) (hx : x ≤ 1114111) : Calls Tryz.prog 161 #[.int .i32 (x : Int)] W fun e w' => e = .returned (.bool (badN x)) ∧ w' = W := by
  by_cases h1 : x < 97
  · have d1 : decide ((x : Int) < 97) = true := by simp; omega
    by_cases h3 : x < 48
    · have d3 : decide ((x : Int) < 48) = true := by simp; omega
      go_enter Tryz.func161, Tryz.ntmps161
      go_wp2
      go_ret
      exact ⟨by simp [badN, isLow, isDig, show ¬ (97 ≤ x ∧ x ≤ 122) by omega, show ¬ (48 ≤ x ∧ x ≤ 57) by omega], rfl⟩
    · have d3 : decide ((x : Int) < 48) = false := by simp; omega
      by_cases h4 : 57 < x
      · have d4 : decide ((57 : Int) < (x : Int)) = true := by simp; omega
        go_enter Tryz.func161, Tryz.ntmps161
        go_wp2
        go_ret
        exact ⟨by simp [badN, isLow, isDig, show ¬ (97 ≤ x ∧ x ≤ 122) by omega, show ¬ (48 ≤ x ∧ x ≤ 57) by omega], rfl⟩
      · have d4 : decide ((57 : Int) < (x : Int)) = false := by simp; omega
        go_enter Tryz.func161, Tryz.ntmps161
        go_wp2
        go_ret
        exact ⟨by simp [badN, isLow, isDig, show ¬ (97 ≤ x ∧ x ≤ 122) by omega, show (48 ≤ x ∧ x ≤ 57) by omega], rfl⟩
  · have d1 : decide ((x : Int) < 97) = false := by simp; omega
    by_cases h2 : 122 < x
    · have d2 : decide ((122 : Int) < (x : Int)) = true := by simp; omega
      have d3 : decide ((x : Int) < 48) = false := by simp; omega
      have d4 : decide ((57 : Int) < (x : Int)) = true := by simp; omega
      go_enter Tryz.func161, Tryz.ntmps161
      go_wp2
      go_ret
      exact ⟨by simp [badN, isLow, isDig, show ¬ (97 ≤ x ∧ x ≤ 122) by omega, show ¬ (48 ≤ x ∧ x ≤ 57) by omega], rfl⟩
    · have d2 : decide ((122 : Int) < (x : Int)) = false := by simp; omega
      go_enter Tryz.func161, Tryz.ntmps161
      go_wp2
      go_ret
      exact ⟨by simp [badN, isLow, isDig, show (97 ≤ x ∧ x ≤ 122) by omega], rfl⟩

theorem badT_fn (x : Nat) (W : World) (hx : x ≤ 1114111) : Calls Tryz.prog 160 #[.int .i32 (x : Int)] W fun e w' => e = .returned (.bool (badT x)) ∧ w' = W := by
  by_cases h1 : x < 32
  · have d1 : decide ((x : Int) < 32) = true := by simp; omega
    go_enter Tryz.func160, Tryz.ntmps160
    go_wp2
    go_ret
    exact ⟨by simp [badT, h1], rfl⟩
  · have d1 : decide ((x : Int) < 32) = false := by simp; omega
    by_cases h2 : 126 < x
    · have d2 : decide ((126 : Int) < (x : Int)) = true := by simp; omega
      go_enter Tryz.func160, Tryz.ntmps160
      go_wp2
      go_ret
      exact ⟨by simp [badT, h2], rfl⟩
    · have d2 : decide ((126 : Int) < (x : Int)) = false := by simp; omega
      go_enter Tryz.func160, Tryz.ntmps160
      go_wp2
      go_ret
      exact ⟨by simp [badT, h1, h2], rfl⟩

theorem containsN (s : ByteArray) (w : World) : Calls Tryz.prog 159 #[.string s, .func (.func 161) #[] #[]] w fun e w' => e = .returned (.bool (s.data.toList.any fun b => badN b.toNat)) ∧ Below w.heap.size w w' := by
  rw [← idx_bytes badN badN_hi]
  exact Tryz.strings_ContainsFunc_runes 161 #[] (enters_of Tryz.func161 (by kernel_rfl) rfl) badN s w fun W x hx _ => (badN_fn x W hx).mono fun e w' ⟨he, hw⟩ => ⟨he, 0, hw⟩
theorem containsT (s : ByteArray) (w : World) : Calls Tryz.prog 159 #[.string s, .func (.func 160) #[] #[]] w fun e w' => e = .returned (.bool (s.data.toList.any fun b => badT b.toNat)) ∧ Below w.heap.size w w' := by
  rw [← idx_bytes badT badT_hi]
  exact Tryz.strings_ContainsFunc_runes 160 #[] (enters_of Tryz.func160 (by kernel_rfl) rfl) badT s w fun W x hx _ => (badT_fn x W hx).mono fun e w' ⟨he, hw⟩ => ⟨he, 0, hw⟩
end Go.Proofs.YtkjndabbkfbkaaaGreatDoor
