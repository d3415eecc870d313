/- Values: which texts are names, which are texts; which values may be: the program's, and the document's. -/
import Derived.Test.YtgfakdobajgnfaaGreatDoorV0
import Derived.Test.YtgfakdobajgnfaaGreatDoorShelf
import Derived.Lib.SpaceUEq
import Derived.Shelf.Strings.Builder1
namespace Go.Proofs.YtgfakdobajgnfaaGreatDoor
open Go Go.RowKit Go.Lib

def isLow (n : Nat) : Bool := decide (97 ≤ n ∧ n ≤ 122)
def isDig (n : Nat) : Bool := decide (48 ≤ n ∧ n ≤ 57)
/-- No byte of a name. -/
def badN (n : Nat) : Bool := !isLow n && !isDig n
/-- No byte of a text. -/
def badT (n : Nat) : Bool := decide (n < 32 ∨ 126 < n)
/-- Is it a name? -/
def nameB (s : ByteArray) : Bool := match s.data.toList with
  | [] => false
  | c :: r => decide (s.size ≤ 12) && isLow c.toNat && !(r.any fun b => badN b.toNat)
/-- Is it a text? -/
def textB (s : ByteArray) : Bool := decide (s.size ≤ 200) && !(s.data.toList.any fun b => badT b.toNat)
/-- May a value be? -/
def mayB (v : Vl) : Bool :=
  if v.k = 0 then decide (v.n = 0) && decide (v.s.size = 0) else if v.k = 1 ∨ v.k = 2 then decide (v.s.size = 0) else if v.k = 3 then decide (v.n = 0) && textB v.s
  else if v.k = 4 then decide (v.s.size = 0) && decide (v.n = 0 ∨ v.n = 1) else if v.k = 5 then decide (v.n = 0) && nameB v.s else false

theorem get_drop {s : ByteArray} {pos : Nat} (h : pos < s.size) : s.data.toList.drop pos = s.get! pos :: s.data.toList.drop (pos + 1) := by
  have h' : pos < s.data.toList.length := by simpa using h
  rw [List.drop_eq_getElem_cons h']
  congr 1
  simp only [ByteArray.get!]
  rw [getElem!_pos s.data pos (by simpa using h)]
  simp

/-- Where all runes beyond ASCII are sought, a text has one that is sought just if it has such a byte. -/
theorem idx_from (p : Nat → Bool) (hp : ∀ r, 128 ≤ r → p r = true) (s : ByteArray) : ∀ (f pos : Nat), s.size ≤ pos + f →
    decide (0 ≤ idxFuncFrom p true s f pos) = (s.data.toList.drop pos).any (fun b => p b.toNat)
  | 0, pos, h => by
    rw [List.drop_eq_nil_of_le (by simpa using h)]
    rfl
  | f + 1, pos, h => by
    unfold idxFuncFrom
    by_cases hlt : pos < s.size
    · rw [if_pos hlt, get_drop hlt, List.any_cons]
      rcases decodeN_cases (s.size - pos) (s.get! pos).toNat (s.get! (pos + 1)).toNat (s.get! (pos + 2)).toNat (s.get! (pos + 3)).toNat with ⟨c, e⟩ | e'
      · rw [← decode_at] at e
        rw [e]
        cases hq : p (s.get! pos).toNat
        · simp only [Bool.false_eq_true, if_false, Bool.false_or]
          exact idx_from p hp s f (pos + 1) (by omega)
        · simp
      · have hr : 128 ≤ (Utf8.decode s pos).1 := by
          rw [decode_at]
          rcases e' with ⟨_, _, _, _, e⟩ | ⟨_, _, _, _, _, e⟩ | ⟨_, e⟩ | e
          · rw [e]; assumption
          · rw [e]; simp only; omega
          · omega
          · rw [e]; simp
        rw [hp _ hr, if_pos rfl]
        by_cases hb : (s.get! pos).toNat < 128
        · exfalso
          have : decodeN (s.size - pos) (s.get! pos).toNat (s.get! (pos + 1)).toNat (s.get! (pos + 2)).toNat (s.get! (pos + 3)).toNat = ((s.get! pos).toNat, 1) := by
            unfold decodeN
            rw [if_pos hb]
          rw [decode_at, this] at hr
          simp only at hr
          omega
        · rw [hp _ (by omega)]
          simp
    · rw [if_neg hlt, List.drop_eq_nil_of_le (by simpa using Nat.le_of_not_lt hlt)]
      rfl
theorem idx_bytes (p : Nat → Bool) (hp : ∀ r, 128 ≤ r → p r = true) (s : ByteArray) : decide (0 ≤ idxFunc p true s) = s.data.toList.any (fun b => p b.toNat) := by
  have := idx_from p hp s s.size 0 (by omega)
  rw [List.drop_zero] at this
  exact this

theorem badN_hi (r : Nat) (h : 128 ≤ r) : badN r = true := by
  have h1 : ¬ (97 ≤ r ∧ r ≤ 122) := by omega
  have h2 : ¬ (48 ≤ r ∧ r ≤ 57) := by omega
  simp [badN, isLow, isDig, h1, h2]
theorem badT_hi (r : Nat) (h : 128 ≤ r) : badT r = true := by
  have h1 : r < 32 ∨ 126 < r := by omega
  simp [badT, h1]

theorem badN_fn (x : Nat) (W : World) (hx : x ≤ 1114111) : Calls Tryz.prog 115 #[.int .i32 (x : Int)] W fun e w' => e = .returned (.bool (badN x)) ∧ w' = W := by
  by_cases h1 : x < 97
  · have d1 : decide ((x : Int) < 97) = true := by simp; omega
    by_cases h3 : x < 48
    · have d3 : decide ((x : Int) < 48) = true := by simp; omega
      go_enter Tryz.func115, Tryz.ntmps115
      go_wp2
      go_ret
      exact ⟨by simp [badN, isLow, isDig, show ¬ (97 ≤ x ∧ x ≤ 122) by omega, show ¬ (48 ≤ x ∧ x ≤ 57) by omega], rfl⟩
    · have d3 : decide ((x : Int) < 48) = false := by simp; omega
      by_cases h4 : 57 < x
      · have d4 : decide ((57 : Int) < (x : Int)) = true := by simp; omega
        go_enter Tryz.func115, Tryz.ntmps115
        go_wp2
        go_ret
        exact ⟨by simp [badN, isLow, isDig, show ¬ (97 ≤ x ∧ x ≤ 122) by omega, show ¬ (48 ≤ x ∧ x ≤ 57) by omega], rfl⟩
      · have d4 : decide ((57 : Int) < (x : Int)) = false := by simp; omega
        go_enter Tryz.func115, Tryz.ntmps115
        go_wp2
        go_ret
        exact ⟨by simp [badN, isLow, isDig, show ¬ (97 ≤ x ∧ x ≤ 122) by omega, show (48 ≤ x ∧ x ≤ 57) by omega], rfl⟩
  · have d1 : decide ((x : Int) < 97) = false := by simp; omega
    by_cases h2 : 122 < x
    · have d2 : decide ((122 : Int) < (x : Int)) = true := by simp; omega
      have d3 : decide ((x : Int) < 48) = false := by simp; omega
      have d4 : decide ((57 : Int) < (x : Int)) = true := by simp; omega
      go_enter Tryz.func115, Tryz.ntmps115
      go_wp2
      go_ret
      exact ⟨by simp [badN, isLow, isDig, show ¬ (97 ≤ x ∧ x ≤ 122) by omega, show ¬ (48 ≤ x ∧ x ≤ 57) by omega], rfl⟩
    · have d2 : decide ((122 : Int) < (x : Int)) = false := by simp; omega
      go_enter Tryz.func115, Tryz.ntmps115
      go_wp2
      go_ret
      exact ⟨by simp [badN, isLow, isDig, show (97 ≤ x ∧ x ≤ 122) by omega], rfl⟩

theorem badT_fn (x : Nat) (W : World) (hx : x ≤ 1114111) : Calls Tryz.prog 114 #[.int .i32 (x : Int)] W fun e w' => e = .returned (.bool (badT x)) ∧ w' = W := by
  by_cases h1 : x < 32
  · have d1 : decide ((x : Int) < 32) = true := by simp; omega
    go_enter Tryz.func114, Tryz.ntmps114
    go_wp2
    go_ret
    exact ⟨by simp [badT, h1], rfl⟩
  · have d1 : decide ((x : Int) < 32) = false := by simp; omega
    by_cases h2 : 126 < x
    · have d2 : decide ((126 : Int) < (x : Int)) = true := by simp; omega
      go_enter Tryz.func114, Tryz.ntmps114
      go_wp2
      go_ret
      exact ⟨by simp [badT, h2], rfl⟩
    · have d2 : decide ((126 : Int) < (x : Int)) = false := by simp; omega
      go_enter Tryz.func114, Tryz.ntmps114
      go_wp2
      go_ret
      exact ⟨by simp [badT, h1, h2], rfl⟩

theorem containsN (s : ByteArray) (w : World) : Calls Tryz.prog 113 #[.string s, .func (.func 115) #[] #[]] w fun e w' => e = .returned (.bool (s.data.toList.any fun b => badN b.toNat)) ∧ Below w.heap.size w w' := by
  rw [← idx_bytes badN badN_hi]
  exact Tryz.strings_ContainsFunc_runes 115 #[] (enters_of Tryz.func115 (by kernel_rfl) rfl) badN s w fun W x hx _ => (badN_fn x W hx).mono fun e w' ⟨he, hw⟩ => ⟨he, 0, hw⟩
theorem containsT (s : ByteArray) (w : World) : Calls Tryz.prog 113 #[.string s, .func (.func 114) #[] #[]] w fun e w' => e = .returned (.bool (s.data.toList.any fun b => badT b.toNat)) ∧ Below w.heap.size w w' := by
  rw [← idx_bytes badT badT_hi]
  exact Tryz.strings_ContainsFunc_runes 114 #[] (enters_of Tryz.func114 (by kernel_rfl) rfl) badT s w fun W x hx _ => (badT_fn x W hx).mono fun e w' ⟨he, hw⟩ => ⟨he, 0, hw⟩
end Go.Proofs.YtgfakdobajgnfaaGreatDoor

/- value.isName, isText, May: the program's, and the document's. -/
namespace Go.Proofs.YtgfakdobajgnfaaGreatDoor
open Go Go.RowKit Go.Lib

theorem ret_bool {a b : Bool} (h : a = b) : Ending.returned (.bool a) = .returned (.bool b) := by rw [h]
theorem toList_nil {s : ByteArray} (h : s.size = 0) : s.toList = [] := by
  rw [ByteArray.toList_eq]
  exact List.eq_nil_of_length_eq_zero (by simpa using h)
theorem toList_ne {s : ByteArray} (h : 0 < s.size) : ¬ s.toList = [] := by
  rw [ByteArray.toList_eq]
  intro e
  have hl : s.data.toList.length = s.size := by simp
  rw [e] at hl
  simp at hl
  omega
theorem isEmpty_ff {s : ByteArray} (h : 0 < s.size) : s.toList.isEmpty = false := by
  have := toList_ne h
  cases hl : s.toList with
  | nil => exact absurd hl this
  | cons => rfl
theorem isEmpty_tt {s : ByteArray} (h : s.size = 0) : s.toList.isEmpty = true := by rw [toList_nil h]; rfl
theorem data_cons {s : ByteArray} (h : 0 < s.size) : ∃ r, s.data.toList = s[0] :: r := by
  have h' : 0 < s.data.toList.length := by simpa using h
  refine ⟨s.data.toList.tail, ?_⟩
  cases hl : s.data.toList with
  | nil => simp [hl] at h'
  | cons c r =>
    have : s.data.toList[0] = c := by simp [hl]
    rw [List.tail_cons, ← this]
    rfl
theorem nameB_zero {s : ByteArray} (h : s.size = 0) : nameB s = false := by
  have : s.data.toList = [] := List.eq_nil_of_length_eq_zero (by simpa using h)
  simp [nameB, this]
theorem nameB_eq {s : ByteArray} (h : 0 < s.size) : nameB s = (decide (s.size ≤ 12) && isLow s[0].toNat && !(s.data.toList.any fun b => badN b.toNat)) := by
  obtain ⟨r, hr⟩ := data_cons h
  unfold nameB
  rw [hr]
  simp only [List.any_cons]
  cases hl : isLow s[0].toNat
  · simp
  · simp [badN, hl]

theorem isName_any (s : ByteArray) (hs : s.size ≤ 9223372036854775807) (w : World) :
    Calls Tryz.prog 72 #[.string s] w fun e w' => e = .returned (.bool (nameB s)) ∧ Below w.heap.size w w' := by
  by_cases h0 : s.size = 0
  · have hq := nameB_zero h0
    have h1 := toList_nil h0
    have h2 := isEmpty_tt h0
    rw [hq]
    clear h0 hq
    go_enter Tryz.func72, Tryz.ntmps72
    go_wp2
    go_ret
    exact ⟨rfl, Below.refl _ _⟩
  · have hp : 0 < s.size := by omega
    have hq := nameB_eq hp
    have h1 := toList_ne hp
    have h2 := isEmpty_ff hp
    clear h0
    by_cases h12 : s.size ≤ 12
    · have d12 : (s.size : Int) ≤ 12 := by omega
      have e12 : decide (12 < (s.size : Int)) = false := by simp; omega
      rw [decide_eq_true h12] at hq
      obtain ⟨c, hc⟩ : ∃ c : UInt8, s[0] = c := ⟨_, rfl⟩
      rw [hc] at hq
      by_cases ha : c.toNat < 97
      · have hl : isLow c.toNat = false := by simp [isLow]; omega
        rw [hl] at hq
        rw [hq]
        have da : (s[0].toNat : Int) < 97 := by rw [hc]; omega
        clear hq hc ha hl
        go_enter Tryz.func72, Tryz.ntmps72
        go_wp2
        go_ret
        exact ⟨rfl, Below.refl _ _⟩
      · have da : 97 ≤ (s[0].toNat : Int) := by rw [hc]; omega
        by_cases hz : 122 < c.toNat
        · have hl : isLow c.toNat = false := by simp [isLow]; omega
          rw [hl] at hq
          rw [hq]
          have dz : 122 < (s[0].toNat : Int) := by rw [hc]; omega
          clear hq hc ha hl
          go_enter Tryz.func72, Tryz.ntmps72
          go_wp2
          go_ret
          exact ⟨rfl, Below.refl _ _⟩
        · have hl : isLow c.toNat = true := by simp [isLow]; omega
          rw [hl] at hq
          rw [hq]
          have dz : (s[0].toNat : Int) ≤ 122 := by rw [hc]; omega
          have hcc := containsN s w
          obtain ⟨b, hb⟩ : ∃ b, (s.data.toList.any fun b => badN b.toNat) = b := ⟨_, rfl⟩
          rw [hb] at hcc ⊢
          have Hc := hide hcc
          clear hq hc ha hl hb hcc hz
          go_enter Tryz.func72, Tryz.ntmps72
          go_wp2_with fail
          (with_reducible refine Hc.out.mono ?_)
          rintro e w1 ⟨rfl, hb1⟩
          go_wp2
          go_ret
          exact ⟨ret_bool (by simp), hb1⟩
    · have hq' : nameB s = false := by rw [hq, decide_eq_false h12]; rfl
      rw [hq']
      have d12 : 12 < (s.size : Int) := by omega
      clear hq hq' h12
      go_enter Tryz.func72, Tryz.ntmps72
      go_wp2
      go_ret
      exact ⟨rfl, Below.refl _ _⟩

theorem isText_any (s : ByteArray) (hs : s.size ≤ 9223372036854775807) (w : World) :
    Calls Tryz.prog 71 #[.string s] w fun e w' => e = .returned (.bool (textB s)) ∧ Below w.heap.size w w' := by
  unfold textB
  by_cases h : s.size ≤ 200
  · have d : (s.size : Int) ≤ 200 := by omega
    rw [decide_eq_true h]
    have hcc := containsT s w
    obtain ⟨b, hb⟩ : ∃ b, (s.data.toList.any fun b => badT b.toNat) = b := ⟨_, rfl⟩
    rw [hb] at hcc ⊢
    have Hc := hide hcc
    clear hb hcc h
    go_enter Tryz.func71, Tryz.ntmps71
    go_wp2_with fail
    (with_reducible refine Hc.out.mono ?_)
    rintro e w1 ⟨rfl, hb1⟩
    go_wp2
    go_ret
    exact ⟨ret_bool (by simp), hb1⟩
  · have d : 200 < (s.size : Int) := by omega
    rw [decide_eq_false h]
    clear h
    go_enter Tryz.func71, Tryz.ntmps71
    go_wp2
    go_ret
    exact ⟨rfl, Below.refl _ _⟩

theorem empty_cases (s : ByteArray) {b : Bool} (hb : decide (s.size = 0) = b) : s.toList.isEmpty = b ∧ (b = true → s.toList = []) ∧ (b = false → ¬ s.toList = []) := by
  cases b
  · have : 0 < s.size := Nat.pos_of_ne_zero (of_decide_eq_false hb)
    exact ⟨isEmpty_ff this, (fun h => by cases h), fun _ => toList_ne this⟩
  · have : s.size = 0 := of_decide_eq_true hb
    exact ⟨isEmpty_tt this, fun _ => toList_nil this, (fun h => by cases h)⟩

/-- The answer of May, and that what lay lies. -/
def MayPost (w : World) (b : Bool) (e : Ending) (w' : World) : Prop := e = .returned (.bool b) ∧ Below w.heap.size w w'

set_option maxRecDepth 100000 in
theorem may_null (n : Int) (s : ByteArray) (w : World) : Calls Tryz.prog 42 #[.agg #[.int .u8 0, .int .i64 n, .string s]] w (MayPost w (decide (n = 0) && decide (s.size = 0))) := by
  have HB := hide ((Below.refl w.heap.size w).alloc (Nat.le_refl _) (.cells #[.int .u8 0, .int .i64 n, .string s] 23))
  obtain ⟨q, hq⟩ : ∃ q, decide (s.size = 0) = q := ⟨_, rfl⟩
  obtain ⟨he1, he2, he3⟩ := empty_cases s hq
  rw [hq]
  clear hq
  by_cases hn : n = 0
  · subst hn
    cases q
    · have he := he3 rfl
      clear he2 he3
      go_enter Tryz.func42, Tryz.ntmps42
      go_wp2
      go_ret
      exact ⟨rfl, HB.out⟩
    · have he := he2 rfl
      clear he2 he3
      go_enter Tryz.func42, Tryz.ntmps42
      go_wp2
      go_ret
      exact ⟨rfl, HB.out⟩
  · have h0 : (n == 0) = false := by simpa using hn
    rw [decide_eq_false hn]
    cases q
    · have he := he3 rfl
      clear he2 he3
      go_enter Tryz.func42, Tryz.ntmps42
      go_wp2
      go_ret
      exact ⟨rfl, HB.out⟩
    · have he := he2 rfl
      clear he2 he3
      go_enter Tryz.func42, Tryz.ntmps42
      go_wp2
      go_ret
      exact ⟨rfl, HB.out⟩

set_option maxRecDepth 100000 in
theorem may_num (k n : Int) (s : ByteArray) (w : World) (hk : k = 1 ∨ k = 2) : Calls Tryz.prog 42 #[.agg #[.int .u8 k, .int .i64 n, .string s]] w (MayPost w (decide (s.size = 0))) := by
  have HB := hide ((Below.refl w.heap.size w).alloc (Nat.le_refl _) (.cells #[.int .u8 k, .int .i64 n, .string s] 23))
  obtain ⟨q, hq⟩ : ∃ q, decide (s.size = 0) = q := ⟨_, rfl⟩
  obtain ⟨he1, he2, he3⟩ := empty_cases s hq
  rw [hq]
  clear hq
  rcases hk with rfl | rfl
  all_goals
    cases q
    · have he := he3 rfl
      clear he2 he3
      go_enter Tryz.func42, Tryz.ntmps42
      go_wp2
      go_ret
      exact ⟨rfl, HB.out⟩
    · have he := he2 rfl
      clear he2 he3
      go_enter Tryz.func42, Tryz.ntmps42
      go_wp2
      go_ret
      exact ⟨rfl, HB.out⟩

set_option maxRecDepth 100000 in
theorem may_str (n : Int) (s : ByteArray) (hs : s.size ≤ 9223372036854775807) (w : World) : Calls Tryz.prog 42 #[.agg #[.int .u8 3, .int .i64 n, .string s]] w (MayPost w (decide (n = 0) && textB s)) := by
  have HB := hide ((Below.refl w.heap.size w).alloc (Nat.le_refl _) (.cells #[.int .u8 3, .int .i64 n, .string s] 23))
  have hc := isText_any s hs (w.alloc (.cells #[.int .u8 3, .int .i64 n, .string s] 23))
  obtain ⟨b, hb⟩ : ∃ b, textB s = b := ⟨_, rfl⟩
  rw [hb] at hc ⊢
  have Hc := hide hc
  clear hc hb
  by_cases hn : n = 0
  · subst hn
    go_enter Tryz.func42, Tryz.ntmps42
    go_wp2_with fail
    (with_reducible refine Hc.out.mono ?_)
    rintro e w1 ⟨rfl, hb1⟩
    have HB1 := hide (HB.out.trans (hb1.mono HB.out.size))
    clear hb1
    go_wp2
    go_ret
    exact ⟨ret_bool (by simp), HB1.out⟩
  · have h0 : (n == 0) = false := by simpa using hn
    rw [decide_eq_false hn]
    clear hn
    go_enter Tryz.func42, Tryz.ntmps42
    go_wp2
    go_ret
    exact ⟨rfl, HB.out⟩

set_option maxRecDepth 100000 in
theorem may_sym (n : Int) (s : ByteArray) (hs : s.size ≤ 9223372036854775807) (w : World) : Calls Tryz.prog 42 #[.agg #[.int .u8 5, .int .i64 n, .string s]] w (MayPost w (decide (n = 0) && nameB s)) := by
  have HB := hide ((Below.refl w.heap.size w).alloc (Nat.le_refl _) (.cells #[.int .u8 5, .int .i64 n, .string s] 23))
  have hc := isName_any s hs (w.alloc (.cells #[.int .u8 5, .int .i64 n, .string s] 23))
  obtain ⟨b, hb⟩ : ∃ b, nameB s = b := ⟨_, rfl⟩
  rw [hb] at hc ⊢
  have Hc := hide hc
  clear hc hb
  by_cases hn : n = 0
  · subst hn
    go_enter Tryz.func42, Tryz.ntmps42
    go_wp2_with fail
    (with_reducible refine Hc.out.mono ?_)
    rintro e w1 ⟨rfl, hb1⟩
    have HB1 := hide (HB.out.trans (hb1.mono HB.out.size))
    clear hb1
    go_wp2
    go_ret
    exact ⟨ret_bool (by simp), HB1.out⟩
  · have h0 : (n == 0) = false := by simpa using hn
    rw [decide_eq_false hn]
    clear hn
    go_enter Tryz.func42, Tryz.ntmps42
    go_wp2
    go_ret
    exact ⟨rfl, HB.out⟩

set_option maxRecDepth 100000 in
theorem may_bool (n : Int) (s : ByteArray) (w : World) : Calls Tryz.prog 42 #[.agg #[.int .u8 4, .int .i64 n, .string s]] w (MayPost w (decide (s.size = 0) && decide (n = 0 ∨ n = 1))) := by
  have HB := hide ((Below.refl w.heap.size w).alloc (Nat.le_refl _) (.cells #[.int .u8 4, .int .i64 n, .string s] 23))
  obtain ⟨q, hq⟩ : ∃ q, decide (s.size = 0) = q := ⟨_, rfl⟩
  obtain ⟨he1, he2, he3⟩ := empty_cases s hq
  rw [hq]
  clear hq
  cases q
  · have he := he3 rfl
    clear he2 he3
    go_enter Tryz.func42, Tryz.ntmps42
    go_wp2
    go_ret
    exact ⟨rfl, HB.out⟩
  · have he := he2 rfl
    clear he2 he3
    by_cases h0 : n = 0
    · subst h0
      go_enter Tryz.func42, Tryz.ntmps42
      go_wp2
      go_ret
      exact ⟨rfl, HB.out⟩
    · by_cases h1 : n = 1
      · subst h1
        go_enter Tryz.func42, Tryz.ntmps42
        go_wp2
        go_ret
        exact ⟨rfl, HB.out⟩
      · have e0 : (n == 0) = false := by simpa using h0
        have e1 : (n == 1) = false := by simpa using h1
        rw [decide_eq_false (by omega)]
        clear h0 h1
        go_enter Tryz.func42, Tryz.ntmps42
        go_wp2
        go_ret
        exact ⟨rfl, HB.out⟩

set_option maxRecDepth 100000 in
theorem may_other (k n : Int) (s : ByteArray) (w : World) (hk : k < 0 ∨ 5 < k) : Calls Tryz.prog 42 #[.agg #[.int .u8 k, .int .i64 n, .string s]] w (MayPost w false) := by
  have HB := hide ((Below.refl w.heap.size w).alloc (Nat.le_refl _) (.cells #[.int .u8 k, .int .i64 n, .string s] 23))
  have e0 : (k == 0) = false := by simp; omega
  have e1 : (k == 1) = false := by simp; omega
  have e2 : (k == 2) = false := by simp; omega
  have e3 : (k == 3) = false := by simp; omega
  have e4 : (k == 4) = false := by simp; omega
  have e5 : (k == 5) = false := by simp; omega
  clear hk
  go_enter Tryz.func42, Tryz.ntmps42
  go_wp2
  go_ret
  exact ⟨rfl, HB.out⟩

/-- Which values may be. -/
theorem may_any (v : Vl) (hv : v.s.size ≤ 9223372036854775807) (w : World) :
    Calls Tryz.prog 42 #[.agg #[.int .u8 v.k, .int .i64 v.n, .string v.s]] w fun e w' => e = .returned (.bool (mayB v)) ∧ Below w.heap.size w w' := by
  obtain ⟨k, n, s⟩ := v
  simp only at hv
  unfold mayB
  simp only
  by_cases k0 : k = 0
  · subst k0
    rw [if_pos rfl]
    exact may_null n s w
  · rw [if_neg k0]
    by_cases k1 : k = 1 ∨ k = 2
    · rw [if_pos k1]
      exact may_num k n s w k1
    · rw [if_neg k1]
      by_cases k3 : k = 3
      · subst k3
        rw [if_pos rfl]
        exact may_str n s hv w
      · rw [if_neg k3]
        by_cases k4 : k = 4
        · subst k4
          rw [if_pos rfl]
          exact may_bool n s w
        · rw [if_neg k4]
          by_cases k5 : k = 5
          · subst k5
            rw [if_pos rfl]
            exact may_sym n s hv w
          · rw [if_neg k5]
            exact may_other k n s w (by omega)
end Go.Proofs.YtgfakdobajgnfaaGreatDoor

/- strings.Builder's WriteByte: the library's contract, laid by hand (the string's type stands in no body of the closure). -/
namespace Go.Proofs.YtgfakdobajgnfaaGreatDoor
open Go Go.Shelf Go.RowKit

def bldRen : Go.Shelf.Ren := ⟨fun | 167 => 129 | 240 => 193 | 276 => 232 | n => n,
  fun | 0 => 0 | 4 => 4 | 5 => 5 | 9 => 9 | 20 => 20 | 37 => 40 | 70 => 179 | 72 => 181 | 75 => 119 | 80 => 183 | 164 => 254 | n => n, fun | n => n⟩
theorem bldLays : Go.Proofs.Lays.n167 Tryz.prog bldRen := {
  mixed := by kernel_rfl
  f167 := Tryz.func129.trans (congrArg some (by kernel_rfl))
  f240 := Tryz.func193.trans (congrArg some (by kernel_rfl))
  f276 := Tryz.func232.trans (congrArg some (by kernel_rfl))
  t0 := Tryz.underlying0
  a0 := Tryz.isAgg0
  z0 := Tryz.sizeOf0
  v0 := Tryz.zeroValue0
  t4 := Tryz.underlying4
  a4 := Tryz.isAgg4
  z4 := Tryz.sizeOf4
  v4 := Tryz.zeroValue4
  t5 := Tryz.underlying5
  a5 := Tryz.isAgg5
  z5 := Tryz.sizeOf5
  v5 := Tryz.zeroValue5
  t9 := Tryz.underlying9
  a9 := Tryz.isAgg9
  z9 := Tryz.sizeOf9
  v9 := Tryz.zeroValue9
  t20 := Tryz.underlying20
  a20 := Tryz.isAgg20
  z20 := Tryz.sizeOf20
  v20 := Tryz.zeroValue20
  t37 := Tryz.underlying40
  a37 := Tryz.isAgg40
  z37 := Tryz.sizeOf40
  v37 := Tryz.zeroValue40
  t70 := Tryz.underlying179
  a70 := Tryz.isAgg179
  z70 := Tryz.sizeOf179
  v70 := Tryz.zeroValue179
  t72 := Tryz.underlying181
  a72 := Tryz.isAgg181
  z72 := Tryz.sizeOf181
  v72 := Tryz.zeroValue181
  t75 := Tryz.underlying119
  a75 := Tryz.isAgg119
  z75 := Tryz.sizeOf119
  v75 := Tryz.zeroValue119
  t164 := Tryz.underlying254
  a164 := Tryz.isAgg254
  z164 := Tryz.sizeOf254
  v164 := Tryz.zeroValue254 }
theorem bldExtra : Builder.Extra Tryz.prog bldRen := {
  sizeBuilder := by kernel_rfl
  liesBuilder := by kernel_rfl
  t5 := Tryz.underlying5
  a5 := Tryz.isAgg5
  z5 := Tryz.sizeOf5
  v5 := Tryz.zeroValue5
  infoByte := by kernel_rfl
  cellsByte := by kernel_rfl
  sizeByte := by kernel_rfl
  neB5 := by decide }
/-- WriteByte. -/
theorem writeByte (B b : Nat) (bs : List Value) (c : Int) (w : World) (h : Lib.IsBuilder 181 5 B b bs w) (hlen : bs.length + 1 ≤ 140737488355328) (hBw : B ≤ w.heap.size) :
    Calls Tryz.prog 129 #[.pointer (some ⟨b, 0, none⟩), .int .u8 c] w fun e w' => e = .returned .nilIface ∧ (Lib.IsBuilder 181 5 B b (bs ++ [.int .u8 c]) w' ∧ Below B w w') :=
  (Any.Builder_WriteByte bldLays bldExtra B b bs c w h hlen hBw).mono fun _ _ h => ⟨h.1, .inr h.2.1, h.2.2⟩
end Go.Proofs.YtgfakdobajgnfaaGreatDoor
