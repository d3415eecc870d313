/- value.isName, isText, May: the program's, and the document's. -/
import Derived.Test.YtkjndabbkfbkaaaGreatDoorV1
namespace Go.Proofs.YtkjndabbkfbkaaaGreatDoor
open Go Go.RowKit Go.Lib

theorem ret_bool {a b : Bool} (h : a = b) : Ending.returned (.bool a) = .returned (.bool b) := by rw [h]
theorem toList_nil {s : ByteArray} (h : s.size = 0) : s.toList = [] := by
  rw [ByteArray.toList_eq]
  exact List.eq_nil_of_length_eq_zero (by simpa using h)
theorem toList_ne {s : ByteArray} (h : 0 < s.size) : ¬ s.toList = [] := by
  rw [ByteArray.toList_eq]
  intro e
  have hl : s.data.toList.length = s.size := by simp
  rw [e] at hl
  simp at hl
  omega
theorem isEmpty_ff {s : ByteArray} (h : 0 < s.size) : s.toList.isEmpty = false := by
  have := toList_ne h
  cases hl : s.toList with
  | nil => exact absurd hl this
  | cons => rfl
theorem isEmpty_tt {s : ByteArray} (h : s.size = 0) : s.toList.isEmpty = true := by rw [toList_nil h]; rfl
theorem data_cons {s : ByteArray} (h : 0 < s.size) : ∃ r, s.data.toList = s[0] :: r := by
  have h' : 0 < s.data.toList.length := by simpa using h
  refine ⟨s.data.toList.tail, ?_⟩
  cases hl : s.data.toList with
  | nil => simp [hl] at h'
  | cons c r =>
    have : s.data.toList[0] = c := by simp [hl]
    rw [List.tail_cons, ← this]
    rfl
theorem nameB_zero {s : ByteArray} (h : s.size = 0) : nameB s = false := by
  have : s.data.toList = [] := List.eq_nil_of_length_eq_zero (by simpa using h)
  simp [nameB, this]
theorem nameB_eq {s : ByteArray} (h : 0 < s.size) : nameB s = (decide (s.size ≤ 12) && isLow s[0].toNat && !(s.data.toList.any fun b => badN b.toNat)) := by
  obtain ⟨r, hr⟩ := data_cons h
  unfold nameB
  rw [hr]
  simp only [List.any_cons]
  cases hl : isLow s[0].toNat
  · simp
  · simp [badN, hl]

theorem isName_any (s : ByteArray) (hs : s.size ≤ 9223372036854775807) (w : World) :
    Calls Tryz.prog 140 #[.string s] w fun e w' => e = .returned (.bool (nameB s)) ∧ Below w.heap.size w w' := by
  by_cases h0 : s.size = 0
  · have hq := nameB_zero h0
    have h1 := toList_nil h0
    have h2 := isEmpty_tt h0
    rw [hq]
    clear h0 hq
    go_enter Tryz.func140, Tryz.ntmps140
    go_wp2
    go_ret
    exact ⟨rfl, Below.refl _ _⟩
  · have hp : 0 < s.size := by omega
    have hq := nameB_eq hp
    have h1 := toList_ne hp
    have h2 := isEmpty_ff hp
    clear h0
    by_cases h12 : s.size ≤ 12
    · have d12 : (s.size : Int) ≤ 12 := by omega
      have e12 : decide (12 < (s.size : Int)) = false := by simp; omega
      rw [decide_eq_true h12] at hq
      obtain ⟨c, hc⟩ : ∃ c : UInt8, s[0] = c := ⟨_, rfl⟩
      rw [hc] at hq
      by_cases ha : c.toNat < 97
      · have hl : isLow c.toNat = false := by simp [isLow]; omega
        rw [hl] at hq
        rw [hq]
        have da : (s[0].toNat : Int) < 97 := by rw [hc]; omega
        clear hq hc ha hl
        go_enter Tryz.func140, Tryz.ntmps140
        go_wp2
        go_ret
        exact ⟨rfl, Below.refl _ _⟩
      · have da : 97 ≤ (s[0].toNat : Int) := by rw [hc]; omega
        by_cases hz : 122 < c.toNat
        · have hl : isLow c.toNat = false := by simp [isLow]; omega
          rw [hl] at hq
          rw [hq]
          have dz : 122 < (s[0].toNat : Int) := by rw [hc]; omega
          clear hq hc ha hl
          go_enter Tryz.func140, Tryz.ntmps140
          go_wp2
          go_ret
          exact ⟨rfl, Below.refl _ _⟩
        · have hl : isLow c.toNat = true := by simp [isLow]; omega
          rw [hl] at hq
          rw [hq]
          have dz : (s[0].toNat : Int) ≤ 122 := by rw [hc]; omega
          have hcc := containsN s w
          obtain ⟨b, hb⟩ : ∃ b, (s.data.toList.any fun b => badN b.toNat) = b := ⟨_, rfl⟩
          rw [hb] at hcc ⊢
          have Hc := hide hcc
          clear hq hc ha hl hb hcc hz
          go_enter Tryz.func140, Tryz.ntmps140
          go_wp2_with fail
          (with_reducible refine Hc.out.mono ?_)
          rintro e w1 ⟨rfl, hb1⟩
          go_wp2
          go_ret
          exact ⟨ret_bool (by simp), hb1⟩
    · have hq' : nameB s = false := by rw [hq, decide_eq_false h12]; rfl
      rw [hq']
      have d12 : 12 < (s.size : Int) := by omega
      clear hq hq' h12
      go_enter Tryz.func140, Tryz.ntmps140
      go_wp2
      go_ret
      exact ⟨rfl, Below.refl _ _⟩

theorem isText_any (s : ByteArray) (hs : s.size ≤ 9223372036854775807) (w : World) :
    Calls Tryz.prog 139 #[.string s] w fun e w' => e = .returned (.bool (textB s)) ∧ Below w.heap.size w w' := by
  unfold textB
  by_cases h : s.size ≤ 200
  · have d : (s.size : Int) ≤ 200 := by omega
    rw [decide_eq_true h]
    have hcc := containsT s w
    obtain ⟨b, hb⟩ : ∃ b, (s.data.toList.any fun b => badT b.toNat) = b := ⟨_, rfl⟩
    rw [hb] at hcc ⊢
    have Hc := hide hcc
    clear hb hcc h
    go_enter Tryz.func139, Tryz.ntmps139
    go_wp2_with fail
    (with_reducible refine Hc.out.mono ?_)
    rintro e w1 ⟨rfl, hb1⟩
    go_wp2
    go_ret
    exact ⟨ret_bool (by simp), hb1⟩
  · have d : 200 < (s.size : Int) := by omega
    rw [decide_eq_false h]
    clear h
    go_enter Tryz.func139, Tryz.ntmps139
    go_wp2
    go_ret
    exact ⟨rfl, Below.refl _ _⟩

theorem empty_cases (s : ByteArray) {b : Bool} (hb : decide (s.size = 0) = b) : s.toList.isEmpty = b ∧ (b = true → s.toList = []) ∧ (b = false → ¬ s.toList = []) := by
  cases b
  · have : 0 < s.size := Nat.pos_of_ne_zero (of_decide_eq_false hb)
    exact ⟨isEmpty_ff this, (fun h => by cases h), fun _ => toList_ne this⟩
  · have : s.size = 0 := of_decide_eq_true hb
    exact ⟨isEmpty_tt this, fun _ => toList_nil this, (fun h => by cases h)⟩

/-- The answer of May, and that what lay lies. -/
def MayPost (w : World) (b : Bool) (e : Ending) (w' : World) : Prop := e = .returned (.bool b) ∧ Below w.heap.size w w'

set_option maxRecDepth 100000 in
theorem may_null (n : Int) (s : ByteArray) (w : World) : Calls Tryz.prog 118 #[.agg #[.int .u8 0, .int .i64 n, .string s]] w (MayPost w (decide (n = 0) && decide (s.size = 0))) := by
  have HB := hide ((Below.refl w.heap.size w).alloc (Nat.le_refl _) (.cells #[.int .u8 0, .int .i64 n, .string s] 32))
  obtain ⟨q, hq⟩ : ∃ q, decide (s.size = 0) = q := ⟨_, rfl⟩
  obtain ⟨he1, he2, he3⟩ := empty_cases s hq
  rw [hq]
  clear hq
  by_cases hn : n = 0
  · subst hn
    cases q
    · have he := he3 rfl
      clear he2 he3
      go_enter Tryz.func118, Tryz.ntmps118
      go_wp2
      go_ret
      exact ⟨rfl, HB.out⟩
    · have he := he2 rfl
      clear he2 he3
      go_enter Tryz.func118, Tryz.ntmps118
      go_wp2
      go_ret
      exact ⟨rfl, HB.out⟩
  · have h0 : (n == 0) = false := by simpa using hn
    rw [decide_eq_false hn]
    cases q
    · have he := he3 rfl
      clear he2 he3
      go_enter Tryz.func118, Tryz.ntmps118
      go_wp2
      go_ret
      exact ⟨rfl, HB.out⟩
    · have he := he2 rfl
      clear he2 he3
      go_enter Tryz.func118, Tryz.ntmps118
      go_wp2
      go_ret
      exact ⟨rfl, HB.out⟩

set_option maxRecDepth 100000 in
theorem may_num (k n : Int) (s : ByteArray) (w : World) (hk : k = 1 ∨ k = 2) : Calls Tryz.prog 118 #[.agg #[.int .u8 k, .int .i64 n, .string s]] w (MayPost w (decide (s.size = 0))) := by
  have HB := hide ((Below.refl w.heap.size w).alloc (Nat.le_refl _) (.cells #[.int .u8 k, .int .i64 n, .string s] 32))
  obtain ⟨q, hq⟩ : ∃ q, decide (s.size = 0) = q := ⟨_, rfl⟩
  obtain ⟨he1, he2, he3⟩ := empty_cases s hq
  rw [hq]
  clear hq
  rcases hk with rfl | rfl
  all_goals
    cases q
    · have he := he3 rfl
      clear he2 he3
      go_enter Tryz.func118, Tryz.ntmps118
      go_wp2
      go_ret
      exact ⟨rfl, HB.out⟩
    · have he := he2 rfl
      clear he2 he3
      go_enter Tryz.func118, Tryz.ntmps118
      go_wp2
      go_ret
      exact ⟨rfl, HB.out⟩

set_option maxRecDepth 100000 in
theorem may_str (n : Int) (s : ByteArray) (hs : s.size ≤ 9223372036854775807) (w : World) : Calls Tryz.prog 118 #[.agg #[.int .u8 3, .int .i64 n, .string s]] w (MayPost w (decide (n = 0) && textB s)) := by
  have HB := hide ((Below.refl w.heap.size w).alloc (Nat.le_refl _) (.cells #[.int .u8 3, .int .i64 n, .string s] 32))
  have hc := isText_any s hs (w.alloc (.cells #[.int .u8 3, .int .i64 n, .string s] 32))
  obtain ⟨b, hb⟩ : ∃ b, textB s = b := ⟨_, rfl⟩
  rw [hb] at hc ⊢
  have Hc := hide hc
  clear hc hb
  by_cases hn : n = 0
  · subst hn
    go_enter Tryz.func118, Tryz.ntmps118
    go_wp2_with fail
    (with_reducible refine Hc.out.mono ?_)
    rintro e w1 ⟨rfl, hb1⟩
    have HB1 := hide (HB.out.trans (hb1.mono HB.out.size))
    clear hb1
    go_wp2
    go_ret
    exact ⟨ret_bool (by simp), HB1.out⟩
  · have h0 : (n == 0) = false := by simpa using hn
    rw [decide_eq_false hn]
    clear hn
    go_enter Tryz.func118, Tryz.ntmps118
    go_wp2
    go_ret
    exact ⟨rfl, HB.out⟩

set_option maxRecDepth 100000 in
theorem may_sym (n : Int) (s : ByteArray) (hs : s.size ≤ 9223372036854775807) (w : World) : Calls Tryz.prog 118 #[.agg #[.int .u8 5, .int .i64 n, .string s]] w (MayPost w (decide (n = 0) && nameB s)) := by
  have HB := hide ((Below.refl w.heap.size w).alloc (Nat.le_refl _) (.cells #[.int .u8 5, .int .i64 n, .string s] 32))
  have hc := isName_any s hs (w.alloc (.cells #[.int .u8 5, .int .i64 n, .string s] 32))
  obtain ⟨b, hb⟩ : ∃ b, nameB s = b := ⟨_, rfl⟩
  rw [hb] at hc ⊢
  have Hc := hide hc
  clear hc hb
  by_cases hn : n = 0
  · subst hn
    go_enter Tryz.func118, Tryz.ntmps118
    go_wp2_with fail
    (with_reducible refine Hc.out.mono ?_)
    rintro e w1 ⟨rfl, hb1⟩
    have HB1 := hide (HB.out.trans (hb1.mono HB.out.size))
    clear hb1
    go_wp2
    go_ret
    exact ⟨ret_bool (by simp), HB1.out⟩
  · have h0 : (n == 0) = false := by simpa using hn
    rw [decide_eq_false hn]
    clear hn
    go_enter Tryz.func118, Tryz.ntmps118
    go_wp2
    go_ret
    exact ⟨rfl, HB.out⟩

set_option maxRecDepth 100000 in
theorem may_bool (n : Int) (s : ByteArray) (w : World) : Calls Tryz.prog 118 #[.agg #[.int .u8 4, .int .i64 n, .string s]] w (MayPost w (decide (s.size = 0) && decide (n = 0 ∨ n = 1))) := by
  have HB := hide ((Below.refl w.heap.size w).alloc (Nat.le_refl _) (.cells #[.int .u8 4, .int .i64 n, .string s] 32))
  obtain ⟨q, hq⟩ : ∃ q, decide (s.size = 0) = q := ⟨_, rfl⟩
  obtain ⟨he1, he2, he3⟩ := empty_cases s hq
  rw [hq]
  clear hq
  cases q
  · have he := he3 rfl
    clear he2 he3
    go_enter Tryz.func118, Tryz.ntmps118
    go_wp2
    go_ret
    exact ⟨rfl, HB.out⟩
  · have he := he2 rfl
    clear he2 he3
    by_cases h0 : n = 0
    · subst h0
      go_enter Tryz.func118, Tryz.ntmps118
      go_wp2
      go_ret
      exact ⟨rfl, HB.out⟩
    · by_cases h1 : n = 1
      · subst h1
        go_enter Tryz.func118, Tryz.ntmps118
        go_wp2
        go_ret
        exact ⟨rfl, HB.out⟩
      · have e0 : (n == 0) = false := by simpa using h0
        have e1 : (n == 1) = false := by simpa using h1
        rw [decide_eq_false (by omega)]
        clear h0 h1
        go_enter Tryz.func118, Tryz.ntmps118
        go_wp2
        go_ret
        exact ⟨rfl, HB.out⟩

set_option maxRecDepth 100000 in
theorem may_other (k n : Int) (s : ByteArray) (w : World) (hk : k < 0 ∨ 5 < k) : Calls Tryz.prog 118 #[.agg #[.int .u8 k, .int .i64 n, .string s]] w (MayPost w false) := by
  have HB := hide ((Below.refl w.heap.size w).alloc (Nat.le_refl _) (.cells #[.int .u8 k, .int .i64 n, .string s] 32))
  have e0 : (k == 0) = false := by simp; omega
  have e1 : (k == 1) = false := by simp; omega
  have e2 : (k == 2) = false := by simp; omega
  have e3 : (k == 3) = false := by simp; omega
  have e4 : (k == 4) = false := by simp; omega
  have e5 : (k == 5) = false := by simp; omega
  clear hk
  go_enter Tryz.func118, Tryz.ntmps118
  go_wp2
  go_ret
  exact ⟨rfl, HB.out⟩

/-- Which values may be. -/
theorem may_any (v : Vl) (hv : v.s.size ≤ 9223372036854775807) (w : World) :
    Calls Tryz.prog 118 #[.agg #[.int .u8 v.k, .int .i64 v.n, .string v.s]] w fun e w' => e = .returned (.bool (mayB v)) ∧ Below w.heap.size w w' := by
  obtain ⟨k, n, s⟩ := v
  simp only at hv
  unfold mayB
  simp only
  by_cases k0 : k = 0
  · subst k0
    rw [if_pos rfl]
    exact may_null n s w
  · rw [if_neg k0]
    by_cases k1 : k = 1 ∨ k = 2
    · rw [if_pos k1]
      exact may_num k n s w k1
    · rw [if_neg k1]
      by_cases k3 : k = 3
      · subst k3
        rw [if_pos rfl]
        exact may_str n s hv w
      · rw [if_neg k3]
        by_cases k4 : k = 4
        · subst k4
          rw [if_pos rfl]
          exact may_bool n s w
        · rw [if_neg k4]
          by_cases k5 : k = 5
          · subst k5
            rw [if_pos rfl]
            exact may_sym n s hv w
          · rw [if_neg k5]
            exact may_other k n s w (by omega)
end Go.Proofs.YtkjndabbkfbkaaaGreatDoor
