/- The document's names and values: witanref02.Name, May. -/
import Derived.Test.YtgfakdobajgnfaaGreatDoorV1
namespace Go.Proofs.YtgfakdobajgnfaaGreatDoor
open Go Go.RowKit Go.Lib

/-- The byte at a place. -/
def byAt (s : ByteArray) (k : Nat) : Nat := (s.data.toList.getD k 0).toNat
theorem byAt_eq {s : ByteArray} {k : Nat} (h : k < s.size) : byAt s k = s[k].toNat := by
  have h' : k < s.data.toList.length := by simpa using h
  unfold byAt
  rw [List.getD_eq_getElem?_getD, List.getElem?_eq_getElem h']
  rfl
theorem any_byAt (p : Nat → Bool) (s : ByteArray) : (s.data.toList.any fun b => p b.toNat) = false ↔ ∀ k, k < s.size → p (byAt s k) = false := by
  rw [List.any_eq_false]
  constructor
  · intro h k hk
    have h' : k < s.data.toList.length := by simpa using hk
    have := h _ (List.getElem_mem h')
    unfold byAt
    rw [List.getD_eq_getElem?_getD, List.getElem?_eq_getElem h']
    simpa using this
  · intro h b hb
    obtain ⟨k, hk, rfl⟩ := List.getElem_of_mem hb
    have := h k (by simpa using hk)
    unfold byAt at this
    rw [List.getD_eq_getElem?_getD, List.getElem?_eq_getElem hk] at this
    simpa using this
/-- A byte that a name may have there. -/
def okAt (s : ByteArray) (k : Nat) : Bool := isLow (byAt s k) || (decide (0 < k) && isDig (byAt s k))
theorem nameB_all {s : ByteArray} (h0 : 0 < s.size) (h1 : s.size ≤ 12) (h : ∀ k, k < s.size → okAt s k = true) : nameB s = true := by
  rw [nameB_eq h0, decide_eq_true h1]
  have hl := h 0 h0
  simp only [okAt, Nat.lt_irrefl, decide_false, Bool.false_and, Bool.or_false, byAt_eq h0] at hl
  rw [hl]
  have : (s.data.toList.any fun b => badN b.toNat) = false := (any_byAt badN s).2 fun k hk => by
    have := h k hk
    simp only [okAt, Bool.or_eq_true, Bool.and_eq_true] at this
    unfold badN
    rcases this with q | ⟨_, q⟩ <;> simp [q]
  rw [this]
  rfl
theorem nameB_not {s : ByteArray} {k : Nat} (hk : k < s.size) (h : okAt s k = false) : nameB s = false := by
  have h0 : 0 < s.size := by omega
  rw [nameB_eq h0]
  simp only [okAt, Bool.or_eq_false_iff, Bool.and_eq_false_iff] at h
  obtain ⟨h1, h2⟩ := h
  by_cases hz : k = 0
  · subst hz
    rw [byAt_eq h0] at h1
    rw [h1]
    simp
  · have hd : isDig (byAt s k) = false := by
      rcases h2 with q | q
      · simp at q; omega
      · exact q
    have : (s.data.toList.any fun b => badN b.toNat) = true := by
      cases hq : (s.data.toList.any fun b => badN b.toNat)
      · have := (any_byAt badN s).1 hq k hk
        simp [badN, h1, hd] at this
      · rfl
    rw [this]
    simp

set_option maxRecDepth 100000 in
set_option maxHeartbeats 1000000 in
theorem rname_any (s : ByteArray) (hs : s.size ≤ 9223372036854775807) (w : World) :
    Calls Tryz.prog 49 #[.string s] w fun e w' => e = .returned (.bool (nameB s)) ∧ w = w' := by
  by_cases h0 : s.size = 0
  · have d0 : (s.size : Int) < 1 := by omega
    rw [nameB_zero h0]
    clear h0
    go_enter Tryz.func49, Tryz.ntmps49
    go_wp2
    go_ret
    exact ⟨rfl, rfl⟩
  · have d0 : 1 ≤ (s.size : Int) := by omega
    by_cases h12 : 12 < s.size
    · have d12 : 12 < (s.size : Int) := by omega
      have hq : nameB s = false := by rw [nameB_eq (by omega), decide_eq_false (by omega)]; rfl
      rw [hq]
      clear h12 h0 hq
      go_enter Tryz.func49, Tryz.ntmps49
      go_wp2
      go_ret
      exact ⟨rfl, rfl⟩
    · have d12 : (s.size : Int) ≤ 12 := by omega
      clear h12 h0
      go_enter Tryz.func49, Tryz.ntmps49
      go_wp2
      go_loop [3] (fun vi => ∃ k : Nat, k ≤ s.size ∧ vi = .int .i64 k ∧ Hid (∀ j, j < k → okAt s j = true)) (fun i => s.size - (intOf i).toNat)
      case atStart => exact ⟨0, Nat.zero_le _, rfl, fun j hj => absurd hj (by omega)⟩
      case round =>
        obtain ⟨k, hk, rfl, hq⟩ := hrel
        by_cases hlk : k < s.size
        · have hby := byAt_eq hlk
          obtain ⟨c, hc⟩ : ∃ c, byAt s k = c := ⟨_, rfl⟩
          have hok : okAt s k = (isLow c || (decide (0 < k) && isDig c)) := by unfold okAt; rw [hc]
          rw [hc] at hby
          have Hok := hide hok
          clear hok hc
          have yes : okAt s k = true → ∀ j, j < k + 1 → okAt s j = true := fun h j hj => by
            rcases Nat.lt_or_ge j k with q | q
            · exact hq.out j q
            · obtain rfl : j = k := by omega
              exact h
          have Yes := hide yes
          clear yes
          by_cases hlo : c < 97
          · have d1 : (s[k].toNat : Int) < 97 := by omega
            by_cases hk0 : k = 0
            · have hno := nameB_not hlk (by rw [Hok.out]; simp [isLow, hk0]; omega)
              have Hno := hide hno
              subst hk0
              clear hno hby hlo
              go_wp2
              go_ret
              exact ⟨by rw [Hno.out]; rfl, rfl⟩
            · have e0 : ((k : Int) == 0) = false := by simp; omega
              by_cases h48 : c < 48
              · have d2 : (s[k].toNat : Int) < 48 := by omega
                have hno := nameB_not hlk (by rw [Hok.out]; simp [isLow, isDig]; omega)
                have Hno := hide hno
                clear hno hby hlo h48 hk0
                go_wp2
                go_ret
                exact ⟨by rw [Hno.out]; rfl, rfl⟩
              · have d2 : 48 ≤ (s[k].toNat : Int) := by omega
                by_cases h57 : 57 < c
                · have d3 : 57 < (s[k].toNat : Int) := by omega
                  have hno := nameB_not hlk (by rw [Hok.out]; simp [isLow, isDig]; omega)
                  have Hno := hide hno
                  clear hno hby hlo h48 hk0 h57
                  go_wp2
                  go_ret
                  exact ⟨by rw [Hno.out]; rfl, rfl⟩
                · have d3 : (s[k].toNat : Int) ≤ 57 := by omega
                  have hyes := Yes.out (by rw [Hok.out]; simp [isLow, isDig]; omega)
                  have Hyes := hide hyes
                  clear hyes hby hlo h48 hk0 h57
                  go_wp2
                  go_round
                  case rel => exact ⟨k + 1, by omega, by go_num, Hyes.out⟩
                  case measure => simp [intOf]; omega
          · have d1 : 97 ≤ (s[k].toNat : Int) := by omega
            by_cases hhi : 122 < c
            · have d2 : 122 < (s[k].toNat : Int) := by omega
              have d5 : decide ((s[k].toNat : Int) ≤ 122) = false := by simp; omega
              have hno := nameB_not hlk (by rw [Hok.out]; simp [isLow, isDig]; omega)
              have Hno := hide hno
              have d3 : 48 ≤ (s[k].toNat : Int) := by omega
              have d4 : 57 < (s[k].toNat : Int) := by omega
              by_cases hk0 : k = 0
              · subst hk0
                clear hno hby hlo hhi
                go_wp2
                go_ret
                exact ⟨by rw [Hno.out]; rfl, rfl⟩
              · have e0 : ((k : Int) == 0) = false := by simp; omega
                clear hno hby hlo hhi hk0
                go_wp2
                go_ret
                exact ⟨by rw [Hno.out]; rfl, rfl⟩
            · have d2 : (s[k].toNat : Int) ≤ 122 := by omega
              have hyes := Yes.out (by rw [Hok.out]; simp [isLow]; omega)
              have Hyes := hide hyes
              clear hyes hby hlo hhi
              go_wp2
              go_round
              case rel => exact ⟨k + 1, by omega, by go_num, Hyes.out⟩
              case measure => simp [intOf]; omega
        · obtain rfl : k = s.size := by omega
          go_wp2
          go_ret
          exact ⟨by rw [nameB_all (by omega) (by omega) hq.out]; rfl, rfl⟩

theorem textB_not {s : ByteArray} {k : Nat} (hk : k < s.size) (h : badT (byAt s k) = true) : textB s = false := by
  have : (s.data.toList.any fun b => badT b.toNat) = true := by
    cases hq : (s.data.toList.any fun b => badT b.toNat)
    · have := (any_byAt badT s).1 hq k hk
      rw [h] at this
      cases this
    · rfl
  unfold textB
  rw [this]
  simp
theorem textB_all {s : ByteArray} (h : ∀ k, k < s.size → badT (byAt s k) = false) : textB s = decide (s.size ≤ 200) := by
  unfold textB
  rw [(any_byAt badT s).2 h]
  simp

set_option maxRecDepth 100000 in
set_option maxHeartbeats 1000000 in
theorem rmay_str (n : Int) (s : ByteArray) (hs : s.size ≤ 9223372036854775807) (w : World) : Calls Tryz.prog 17 #[.agg #[.int .u8 3, .int .i64 n, .string s]] w (MayPost w (decide (n = 0) && textB s)) := by
  have HB := hide ((Below.refl w.heap.size w).alloc (Nat.le_refl _) (.cells #[.int .u8 3, .int .i64 n, .string s] 23))
  go_enter Tryz.func17, Tryz.ntmps17
  go_wp2
  go_loop [3] (fun vi => ∃ k : Nat, k ≤ s.size ∧ vi = .int .i64 k ∧ Hid (∀ j, j < k → badT (byAt s j) = false)) (fun i => s.size - (intOf i).toNat)
  case atStart => exact ⟨0, Nat.zero_le _, rfl, fun j hj => absurd hj (by omega)⟩
  case round =>
    obtain ⟨k, hk, rfl, hq⟩ := hrel
    by_cases hlk : k < s.size
    · have hby := byAt_eq hlk
      obtain ⟨c, hc⟩ : ∃ c, byAt s k = c := ⟨_, rfl⟩
      rw [hc] at hby
      by_cases h32 : c < 32
      · have d1 : (s[k].toNat : Int) < 32 := by omega
        have Hno := hide (textB_not hlk (by rw [hc]; simp [badT]; omega))
        clear hby hc h32
        go_wp2
        go_ret
        exact ⟨by rw [Hno.out, Bool.and_false]; rfl, HB.out⟩
      · have d1 : 32 ≤ (s[k].toNat : Int) := by omega
        by_cases h126 : 126 < c
        · have d2 : 126 < (s[k].toNat : Int) := by omega
          have Hno := hide (textB_not hlk (by rw [hc]; simp [badT]; omega))
          clear hby hc h32 h126
          go_wp2
          go_ret
          exact ⟨by rw [Hno.out, Bool.and_false]; rfl, HB.out⟩
        · have d2 : (s[k].toNat : Int) ≤ 126 := by omega
          have Hyes : Hid (∀ j, j < k + 1 → badT (byAt s j) = false) := fun j hj => by
            rcases Nat.lt_or_ge j k with q | q
            · exact hq.out j q
            · obtain rfl : j = k := by omega
              rw [hc]
              simp [badT]
              omega
          clear hby hc h32 h126
          go_wp2
          go_round
          case rel => exact ⟨k + 1, by omega, by go_num, Hyes.out⟩
          case measure => simp [intOf]; omega
    · obtain rfl : k = s.size := by omega
      have Ht := hide (textB_all hq.out)
      by_cases hn : n = 0
      · subst hn
        by_cases h200 : s.size ≤ 200
        · have d1 : (s.size : Int) ≤ 200 := by omega
          have Hd := hide (decide_eq_true h200)
          clear h200
          go_wp2
          go_ret
          exact ⟨by rw [Ht.out, Hd.out]; rfl, HB.out⟩
        · have d1 : 200 < (s.size : Int) := by omega
          have d2 : decide ((s.size : Int) ≤ 200) = false := by simp; omega
          have Hd := hide (decide_eq_false h200)
          clear h200
          go_wp2
          go_ret
          exact ⟨by rw [Ht.out, Hd.out]; rfl, HB.out⟩
      · have h0 : (n == 0) = false := by simpa using hn
        have Hd := hide (decide_eq_false hn)
        clear hn
        go_wp2
        go_ret
        exact ⟨by rw [Hd.out]; rfl, HB.out⟩

set_option maxRecDepth 100000 in
theorem rmay_null (n : Int) (s : ByteArray) (w : World) : Calls Tryz.prog 17 #[.agg #[.int .u8 0, .int .i64 n, .string s]] w (MayPost w (decide (n = 0) && decide (s.size = 0))) := by
  have HB := hide ((Below.refl w.heap.size w).alloc (Nat.le_refl _) (.cells #[.int .u8 0, .int .i64 n, .string s] 23))
  obtain ⟨q, hq⟩ : ∃ q, decide (s.size = 0) = q := ⟨_, rfl⟩
  obtain ⟨he1, he2, he3⟩ := empty_cases s hq
  rw [hq]
  clear hq
  by_cases hn : n = 0
  · subst hn
    cases q
    · have he := he3 rfl
      clear he2 he3
      go_enter Tryz.func17, Tryz.ntmps17
      go_wp2
      go_ret
      exact ⟨rfl, HB.out⟩
    · have he := he2 rfl
      clear he2 he3
      go_enter Tryz.func17, Tryz.ntmps17
      go_wp2
      go_ret
      exact ⟨rfl, HB.out⟩
  · have h0 : (n == 0) = false := by simpa using hn
    rw [decide_eq_false hn]
    cases q
    · have he := he3 rfl
      clear he2 he3
      go_enter Tryz.func17, Tryz.ntmps17
      go_wp2
      go_ret
      exact ⟨rfl, HB.out⟩
    · have he := he2 rfl
      clear he2 he3
      go_enter Tryz.func17, Tryz.ntmps17
      go_wp2
      go_ret
      exact ⟨rfl, HB.out⟩

set_option maxRecDepth 100000 in
theorem rmay_num (k n : Int) (s : ByteArray) (w : World) (hk : k = 1 ∨ k = 2) : Calls Tryz.prog 17 #[.agg #[.int .u8 k, .int .i64 n, .string s]] w (MayPost w (decide (s.size = 0))) := by
  have HB := hide ((Below.refl w.heap.size w).alloc (Nat.le_refl _) (.cells #[.int .u8 k, .int .i64 n, .string s] 23))
  obtain ⟨q, hq⟩ : ∃ q, decide (s.size = 0) = q := ⟨_, rfl⟩
  obtain ⟨he1, he2, he3⟩ := empty_cases s hq
  rw [hq]
  clear hq
  rcases hk with rfl | rfl
  all_goals
    cases q
    · have he := he3 rfl
      clear he2 he3
      go_enter Tryz.func17, Tryz.ntmps17
      go_wp2
      go_ret
      exact ⟨rfl, HB.out⟩
    · have he := he2 rfl
      clear he2 he3
      go_enter Tryz.func17, Tryz.ntmps17
      go_wp2
      go_ret
      exact ⟨rfl, HB.out⟩

set_option maxRecDepth 100000 in
theorem rmay_sym (n : Int) (s : ByteArray) (hs : s.size ≤ 9223372036854775807) (w : World) : Calls Tryz.prog 17 #[.agg #[.int .u8 5, .int .i64 n, .string s]] w (MayPost w (decide (n = 0) && nameB s)) := by
  have HB := hide ((Below.refl w.heap.size w).alloc (Nat.le_refl _) (.cells #[.int .u8 5, .int .i64 n, .string s] 23))
  have hc := rname_any s hs (w.alloc (.cells #[.int .u8 5, .int .i64 n, .string s] 23))
  obtain ⟨b, hb⟩ : ∃ b, nameB s = b := ⟨_, rfl⟩
  rw [hb] at hc ⊢
  have Hc := hide hc
  clear hc hb
  by_cases hn : n = 0
  · subst hn
    go_enter Tryz.func17, Tryz.ntmps17
    go_wp2_with fail
    (with_reducible refine Hc.out.mono ?_)
    rintro e w1 ⟨rfl, rfl⟩
    go_wp2
    go_ret
    exact ⟨ret_bool (by simp), HB.out⟩
  · have h0 : (n == 0) = false := by simpa using hn
    rw [decide_eq_false hn]
    clear hn
    go_enter Tryz.func17, Tryz.ntmps17
    go_wp2
    go_ret
    exact ⟨rfl, HB.out⟩

set_option maxRecDepth 100000 in
theorem rmay_bool (n : Int) (s : ByteArray) (w : World) : Calls Tryz.prog 17 #[.agg #[.int .u8 4, .int .i64 n, .string s]] w (MayPost w (decide (s.size = 0) && decide (n = 0 ∨ n = 1))) := by
  have HB := hide ((Below.refl w.heap.size w).alloc (Nat.le_refl _) (.cells #[.int .u8 4, .int .i64 n, .string s] 23))
  obtain ⟨q, hq⟩ : ∃ q, decide (s.size = 0) = q := ⟨_, rfl⟩
  obtain ⟨he1, he2, he3⟩ := empty_cases s hq
  rw [hq]
  clear hq
  cases q
  · have he := he3 rfl
    clear he2 he3
    go_enter Tryz.func17, Tryz.ntmps17
    go_wp2
    go_ret
    exact ⟨rfl, HB.out⟩
  · have he := he2 rfl
    clear he2 he3
    by_cases h0 : n = 0
    · subst h0
      go_enter Tryz.func17, Tryz.ntmps17
      go_wp2
      go_ret
      exact ⟨rfl, HB.out⟩
    · by_cases h1 : n = 1
      · subst h1
        go_enter Tryz.func17, Tryz.ntmps17
        go_wp2
        go_ret
        exact ⟨rfl, HB.out⟩
      · have e0 : (n == 0) = false := by simpa using h0
        have e1 : (n == 1) = false := by simpa using h1
        rw [decide_eq_false (by omega)]
        clear h0 h1
        go_enter Tryz.func17, Tryz.ntmps17
        go_wp2
        go_ret
        exact ⟨rfl, HB.out⟩

set_option maxRecDepth 100000 in
theorem rmay_other (k n : Int) (s : ByteArray) (w : World) (hk : k < 0 ∨ 5 < k) : Calls Tryz.prog 17 #[.agg #[.int .u8 k, .int .i64 n, .string s]] w (MayPost w false) := by
  have HB := hide ((Below.refl w.heap.size w).alloc (Nat.le_refl _) (.cells #[.int .u8 k, .int .i64 n, .string s] 23))
  have e0 : (k == 0) = false := by simp; omega
  have e1 : (k == 1) = false := by simp; omega
  have e2 : (k == 2) = false := by simp; omega
  have e3 : (k == 3) = false := by simp; omega
  have e4 : (k == 4) = false := by simp; omega
  have e5 : (k == 5) = false := by simp; omega
  clear hk
  go_enter Tryz.func17, Tryz.ntmps17
  go_wp2
  go_ret
  exact ⟨rfl, HB.out⟩

/-- Which values may be. -/
theorem rmay_any (v : Vl) (hv : v.s.size ≤ 9223372036854775807) (w : World) :
    Calls Tryz.prog 17 #[.agg #[.int .u8 v.k, .int .i64 v.n, .string v.s]] w fun e w' => e = .returned (.bool (mayB v)) ∧ Below w.heap.size w w' := by
  obtain ⟨k, n, s⟩ := v
  simp only at hv
  unfold mayB
  simp only
  by_cases k0 : k = 0
  · subst k0
    rw [if_pos rfl]
    exact rmay_null n s w
  · rw [if_neg k0]
    by_cases k1 : k = 1 ∨ k = 2
    · rw [if_pos k1]
      exact rmay_num k n s w k1
    · rw [if_neg k1]
      by_cases k3 : k = 3
      · subst k3
        rw [if_pos rfl]
        exact rmay_str n s hv w
      · rw [if_neg k3]
        by_cases k4 : k = 4
        · subst k4
          rw [if_pos rfl]
          exact rmay_bool n s w
        · rw [if_neg k4]
          by_cases k5 : k = 5
          · subst k5
            rw [if_pos rfl]
            exact rmay_sym n s hv w
          · rw [if_neg k5]
            exact rmay_other k n s w (by omega)
end Go.Proofs.YtgfakdobajgnfaaGreatDoor
