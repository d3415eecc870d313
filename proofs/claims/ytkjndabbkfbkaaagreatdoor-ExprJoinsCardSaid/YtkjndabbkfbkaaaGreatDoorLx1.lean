/- lexer: bytes; while. -/
import Derived.Test.YtkjndabbkfbkaaaGreatDoorRd
import Derived.Test.YtkjndabbkfbkaaaGreatDoorVm
namespace Go.Proofs.YtkjndabbkfbkaaaGreatDoor
open Go Go.RowKit Go.Lib Go.Sort Go.Shelf

theorem lowC_dec (c : UInt8) : lowC c = (decide (97 ≤ (c.toNat : Int)) && decide ((c.toNat : Int) ≤ 122)) := by
  unfold lowC
  congr 1
  · exact decide_eq_decide.2 (by omega)
  · exact decide_eq_decide.2 (by omega)
theorem digC_dec (c : UInt8) : digC c = (decide (48 ≤ (c.toNat : Int)) && decide ((c.toNat : Int) ≤ 57)) := by
  unfold digC
  congr 1
  · exact decide_eq_decide.2 (by omega)
  · exact decide_eq_decide.2 (by omega)
theorem letter_any (c : UInt8) (w : World) : Calls Tryz.prog 63 #[.int .u8 (c.toNat : Int)] w fun e w' => e = .returned (.bool (lowC c)) ∧ w = w' := by
  rw [lowC_dec]
  obtain ⟨p, hp⟩ : ∃ p, decide (97 ≤ (c.toNat : Int)) = p := ⟨_, rfl⟩
  obtain ⟨q, hq⟩ : ∃ q, decide ((c.toNat : Int) ≤ 122) = q := ⟨_, rfl⟩
  cases p <;> cases q
  all_goals
    go_enter Tryz.func63, Tryz.ntmps63
    go_wp2
    go_ret
    exact ⟨by simp [hp, hq], rfl⟩
theorem digit_any (c : UInt8) (w : World) : Calls Tryz.prog 65 #[.int .u8 (c.toNat : Int)] w fun e w' => e = .returned (.bool (digC c)) ∧ w = w' := by
  rw [digC_dec]
  obtain ⟨p, hp⟩ : ∃ p, decide (48 ≤ (c.toNat : Int)) = p := ⟨_, rfl⟩
  obtain ⟨q, hq⟩ : ∃ q, decide ((c.toNat : Int) ≤ 57) = q := ⟨_, rfl⟩
  cases p <;> cases q
  all_goals
    go_enter Tryz.func65, Tryz.ntmps65
    go_wp2
    go_ret
    exact ⟨by simp [hp, hq], rfl⟩
/-- A byte of a name. -/
def namC (c : UInt8) : Bool := lowC c || digC c
theorem named_any (c : UInt8) (w : World) : Calls Tryz.prog 64 #[.int .u8 (c.toNat : Int)] w fun e w' => e = .returned (.bool (namC c)) ∧ w = w' := by
  unfold namC
  have h1 := letter_any c w
  have h2 := digit_any c w
  obtain ⟨p, hp⟩ : ∃ p, lowC c = p := ⟨_, rfl⟩
  obtain ⟨q, hq⟩ : ∃ q, digC c = q := ⟨_, rfl⟩
  rw [hp] at h1 ⊢
  rw [hq] at h2 ⊢
  have H1 := hide h1
  have H2 := hide h2
  clear h1 h2 hp hq
  cases p
  · go_enter Tryz.func64, Tryz.ntmps64
    go_wp2_with fail
    (with_reducible refine H1.out.mono ?_)
    rintro e w' ⟨rfl, rfl⟩
    go_wp2_with fail
    (with_reducible refine H2.out.mono ?_)
    rintro e w' ⟨rfl, rfl⟩
    go_wp2
    go_ret
    exact ⟨by simp, rfl⟩
  · go_enter Tryz.func64, Tryz.ntmps64
    go_wp2_with fail
    (with_reducible refine H1.out.mono ?_)
    rintro e w' ⟨rfl, rfl⟩
    go_wp2
    go_ret
    exact ⟨by simp, rfl⟩
theorem line_any (c : UInt8) (w : World) : Calls Tryz.prog 61 #[.int .u8 (c.toNat : Int)] w fun e w' => e = .returned (.bool (c != 10)) ∧ w = w' := by
  have h : (c != 10) = ((c.toNat : Int) != 10) := by
    by_cases e : c = 10
    · subst e; rfl
    · have h1 : (c != 10) = true := by simpa using e
      have h2 : c.toNat ≠ 10 := fun q => e (UInt8.toNat_inj.1 q)
      have h3 : ((c.toNat : Int) != 10) = true := by simp; omega
      rw [h1, h3]
  rw [h]
  go_enter Tryz.func61, Tryz.ntmps61
  go_wp2
  go_ret
  exact ⟨by simp, rfl⟩
set_option maxRecDepth 100000 in
set_option maxHeartbeats 1000000 in
/-- while: f answers p at each byte, from one world to the next one (I: how far it has come). -/
theorem while_any (s : ByteArray) (fn : Nat) (caps : Array Value) (p : Nat → Bool) (I : Nat → World → Prop) (eg : ∀ args w, (callFunc fn args).run Tryz.prog w = .ok (.enter fn args) w)
    (hs : s.size ≤ 9223372036854775806) (a n : Nat) (w : World) (han : a ≤ n) (hn : n ≤ s.size) (hlt : ∀ i, a ≤ i → i < n → p i = true) (hend : n < s.size → p n = false)
    (hI : I a w) (hstep : ∀ i V (h : i < s.size), a ≤ i → I i V → Calls Tryz.prog fn (#[.int .u8 (s[i].toNat : Int)] ++ caps) V fun e V' => e = .returned (.bool (p i)) ∧ I (i + 1) V') :
    Calls Tryz.prog 60 #[.string s, .int .i64 a, .func (.func fn) #[] caps] w fun e w' => e = .returned (.int .i64 ((n : Int) - (a : Int))) ∧ ∃ k, I k w' := by
  have Hlt := hide hlt
  have Hend := hide hend
  have Hst := hide hstep
  have HI := hide hI
  clear hlt hend hstep hI
  go_enter Tryz.func60, Tryz.ntmps60
  go_wp2
  go_loopw [7] (fun v7 wr => ∃ i : Nat, a ≤ i ∧ i ≤ n ∧ v7 = .int .i64 i ∧ Hid (I i wr)) (fun v7 _ => n - (intOf v7).toNat)
  case atStart => exact ⟨a, Nat.le_refl _, han, rfl, HI.out⟩
  case round =>
    obtain ⟨i, hai, hin, rfl, hq⟩ := hrel
    by_cases hi : i < s.size
    · have hc := Hst.out i wr hi hai hq.out
      have j1 : (i : Int) < (s.size : Int) := by omega
      have j0 : (0 : Int) ≤ (i : Int) := by omega
      by_cases hlt : i < n
      · rw [Hlt.out i hai hlt] at hc
        have Hc := hide hc
        clear hc hq
        go_wp2_with fail
        (with_reducible refine Hc.out.mono ?_)
        rintro e V ⟨rfl, hV⟩
        have HV := hide hV
        clear hV Hc
        go_wp2
        go_roundw
        case rel => exact ⟨i + 1, by omega, by omega, by go_num, HV.out⟩
        case measure => simp [intOf]; omega
      · obtain rfl : i = n := by omega
        rw [Hend.out hi] at hc
        have Hc := hide hc
        clear hc hq
        go_wp2_with fail
        (with_reducible refine Hc.out.mono ?_)
        rintro e V ⟨rfl, hV⟩
        have HV := hide hV
        clear hV Hc
        go_wp2
        go_ret
        exact ⟨rfl, _, HV.out⟩
    · obtain rfl : i = n := by omega
      have j1 : ¬ (i : Int) < (s.size : Int) := by omega
      go_wp2
      go_ret
      exact ⟨rfl, _, hq.out⟩
/-- How many bytes from the front on are so. -/
def spanL (q : UInt8 → Bool) (l : List UInt8) : Nat := (l.takeWhile q).length
theorem spanL_le (q : UInt8 → Bool) (l : List UInt8) : spanL q l ≤ l.length := by
  unfold spanL
  have := congrArg List.length (List.takeWhile_append_dropWhile (p := q) (l := l))
  rw [List.length_append] at this
  omega
theorem spanL_lt (q : UInt8 → Bool) : ∀ (l : List UInt8) (i : Nat), i < spanL q l → ∃ c, l[i]? = some c ∧ q c = true
  | [], i, h => by simp [spanL] at h
  | c :: l, i, h => by
    unfold spanL at h
    rw [List.takeWhile_cons] at h
    by_cases hc : q c = true
    · rw [if_pos hc] at h
      cases i with
      | zero => exact ⟨c, rfl, hc⟩
      | succ i =>
        obtain ⟨d, h1, h2⟩ := spanL_lt q l i (by simpa [spanL] using h)
        exact ⟨d, h1, h2⟩
    · rw [if_neg hc] at h
      simp at h
theorem spanL_end (q : UInt8 → Bool) : ∀ (l : List UInt8), spanL q l < l.length → ∃ c, l[spanL q l]? = some c ∧ q c = false
  | [], h => by simp [spanL] at h
  | c :: l, h => by
    unfold spanL at h ⊢
    rw [List.takeWhile_cons] at h ⊢
    by_cases hc : q c = true
    · rw [if_pos hc] at h ⊢
      obtain ⟨d, h1, h2⟩ := spanL_end q l (by simpa [spanL] using h)
      exact ⟨d, by simpa [spanL] using h1, h2⟩
    · rw [if_neg hc]
      exact ⟨c, rfl, by simpa using hc⟩
/-- while, where what is asked changes nothing. -/
theorem while_pure (s : ByteArray) (fn : Nat) (q : UInt8 → Bool) (eg : ∀ args w, (callFunc fn args).run Tryz.prog w = .ok (.enter fn args) w) (hs : s.size ≤ 9223372036854775806) (a : Nat) (w : World) (ha : a ≤ s.size)
    (hq : ∀ (c : UInt8) (V : World), Calls Tryz.prog fn #[.int .u8 (c.toNat : Int)] V fun e V' => e = .returned (.bool (q c)) ∧ V = V') :
    Calls Tryz.prog 60 #[.string s, .int .i64 a, .func (.func fn) #[] #[]] w fun e w' => e = .returned (.int .i64 (spanL q ((dl s).drop a) : Nat)) ∧ w = w' := by
  have hle := spanL_le q ((dl s).drop a)
  rw [List.length_drop, dl_size] at hle
  have hget : ∀ i (h : i < s.size), (dl s)[i]? = some s[i] := fun i h => dl_get h
  refine (while_any s fn #[] (fun i => ((dl s)[i]?.map q).getD false) (fun _ V => w = V) eg hs a (a + spanL q ((dl s).drop a)) w (by omega) (by omega) (fun i h1 h2 => ?_) (fun h => ?_) rfl (fun i V h _ hV => ?_)).mono ?_
  · obtain ⟨c, h3, h4⟩ := spanL_lt q ((dl s).drop a) (i - a) (by omega)
    rw [List.getElem?_drop, show a + (i - a) = i by omega] at h3
    simp [h3, h4]
  · obtain ⟨c, h3, h4⟩ := spanL_end q ((dl s).drop a) (by rw [List.length_drop, dl_size]; omega)
    rw [List.getElem?_drop] at h3
    simp [h3, h4]
  · refine (hq s[i] V).mono ?_
    rintro e V' ⟨rfl, rfl⟩
    exact ⟨by rw [hget i h]; rfl, hV⟩
  · rintro e w' ⟨rfl, k, hk⟩
    exact ⟨by congr 2; omega, hk⟩
end Go.Proofs.YtkjndabbkfbkaaaGreatDoor
