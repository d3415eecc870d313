/- Tokens: the statements' ints, in. -/
import Derived.Test.YtmcajoccfbebiaaTk8
namespace Go.Proofs.Ytmcajoccfbebiaa
open Go Go.RowKit Go.MapKept Go.Sort

theorem nis_at {w : World} {x : Value} {l : List Int} (h : NIs w x l) {k : Nat} (hk : k < l.length) : ∃ b off cap, x = .slice (some ⟨b, off, none⟩) l.length cap ∧ w.cell? ⟨b, off + k, none⟩ = some (.int .i64 l[k]) := by
  obtain ⟨_, ⟨b, off, cap, rfl, hi⟩ | ⟨rfl, _⟩⟩ := h
  · exact ⟨b, off, cap, rfl, hi k hk⟩
  · simp at hk
theorem nis_drew {w : World} {x : Value} {l : List Int} (h : NIs w x l) (n : Nat) : NIs (w.drewN n) x l := h.below ((Only.refl [] w).drewN n).below
theorem take_eq {l m : List Int} {k : Nat} (hl : k < l.length) (hm : k < m.length) (h : l.take k = m.take k) (he : l[k] = m[k]) : l.take (k + 1) = m.take (k + 1) := by
  rw [List.take_succ_eq_append_getElem hl, List.take_succ_eq_append_getElem hm, h, he]

set_option maxHeartbeats 2000000 in
theorem ints_any (x y : Value) (l m : List Int) (w : World) (hx : NIs w x l) (hy : NIs w y m) :
    Calls Try.prog 15 #[x, y] w fun e w' => e = .returned (.bool (decide (l = m))) ∧ ∃ n, w' = w.drewN n := by
  obtain ⟨xa, xc, rfl⟩ := hx.form
  obtain ⟨ya, yc, rfl⟩ := hy.form
  have hlen := hx.1
  have hlen' := hy.1
  by_cases hlm : l.length = m.length
  · have Hx := hide hx
    have Hy := hide hy
    have Hlm := hide hlm
    rw [← hlm]
    clear hx hy hlm hlen'
    go_enter Try.func15, Try.ntmps15
    go_wp2
    go_loopw [13] (fun vi wr => ∃ k : Nat, k ≤ l.length ∧ vi = .int .i64 k ∧ Hid (l.take k = m.take k) ∧ ∃ n, wr = w.drewN n) (fun vi _ => l.length - (intOf vi).toNat)
    case atStart => exact ⟨0, Nat.zero_le _, rfl, rfl, 0, rfl⟩
    case round =>
      obtain ⟨k, hk, rfl, hq, n, rfl⟩ := hrel
      by_cases hlk : k < l.length
      · have hmk : k < m.length := by rw [← Hlm.out]; exact hlk
        obtain ⟨b, off, cap, e, d0⟩ := nis_at Hx.out hlk
        injection e with e1 e2 e3
        subst e1
        clear e2 e3
        obtain ⟨b', off', cap', e, d1⟩ := nis_at Hy.out hmk
        injection e with e1 e2 e3
        subst e1
        clear e2 e3
        have hyes := take_eq hlk hmk hq.out
        have hno : l[k] ≠ m[k] → decide (l = m) = false := fun q => by
          rw [decide_eq_false_iff_not]
          rintro rfl
          exact q rfl
        obtain ⟨p, hp⟩ : ∃ p, l[k] = p := ⟨_, rfl⟩
        obtain ⟨q, hq'⟩ : ∃ q, m[k] = q := ⟨_, rfl⟩
        rw [hp] at d0 hyes hno
        rw [hq'] at d1 hyes hno
        have Hyes := hide hyes
        have Hno := hide hno
        have i1 : (0 : Int) ≤ (k : Int) := by omega
        have i2 : (k : Int) < (l.length : Int) := by omega
        clear hyes hno hmk hp hq'
        by_cases hpq : p = q
        · have q1 : (p != q) = false := by simpa using hpq
          have Hs := hide (Hyes.out hpq)
          clear hpq
          go_wp2_with fail
          go_quiet (fail)
          go_wp2
          go_roundw
          case rel => exact ⟨k + 1, by omega, by go_num, Hs.out, _, rfl⟩
          case measure => simp [intOf]; omega
        · have q1 : (p != q) = true := by simpa using hpq
          have Hn := hide (Hno.out hpq)
          clear hpq
          go_wp2_with fail
          go_quiet (fail)
          go_wp2
          go_ret
          exact ⟨by rw [Hn.out]; rfl, _, World.drewN_drewN _ _ _⟩
      · obtain rfl : k = l.length := by omega
        have Hy := hide (show decide (l = m) = true by
          have := hq.out
          rw [List.take_length, Hlm.out, List.take_length] at this
          simpa using this)
        go_wp2
        go_ret
        exact ⟨by rw [Hy.out]; rfl, _, rfl⟩
  · have hlq' : ((l.length : Int) != (m.length : Int)) = true := by rw [bne_iff_ne]; omega
    have hd : decide (l = m) = false := by
      rw [decide_eq_false_iff_not]
      rintro rfl
      exact hlm rfl
    rw [hd]
    clear hx hy hlm hd
    go_enter Try.func15, Try.ntmps15
    go_wp2
    go_ret
    exact ⟨rfl, 0, rfl⟩

/-- How often a number stands in a list. -/
def cnt (l : List Int) (n : Int) : Nat := (l.filter fun x => x == n).length
theorem cnt_take {l : List Int} {k : Nat} (h : k < l.length) (n : Int) : cnt (l.take (k + 1)) n = cnt (l.take k) n + (if l[k] = n then 1 else 0) := by
  unfold cnt
  rw [List.take_succ_eq_append_getElem h, List.filter_append, List.length_append]
  by_cases e : l[k] = n <;> simp [e]
theorem cnt_le (l : List Int) (n : Int) : cnt l n ≤ l.length := List.length_filter_le _ _

set_option maxHeartbeats 2000000 in
theorem in_any (x : Value) (l : List Int) (z : Int) (w : World) (hx : NIs w x l) (ha : l.Pairwise (· < ·)) :
    Calls Try.prog 21 #[x, .int .i64 z] w fun e w' => e = .returned (.int .i64 (cnt l z)) ∧ ∃ n, w' = w.drewN n := by
  obtain ⟨xa, xc, rfl⟩ := hx.form
  have hlen := hx.1
  have Hx := hide hx
  have Ha := hide (List.pairwise_iff_getElem.1 ha)
  clear hx ha
  go_enter Try.func21, Try.ntmps21
  go_wp2
  go_loopw [5, 9] (fun v5 vi wr => ∃ k : Nat, k ≤ l.length ∧ vi = .int .i64 k ∧ v5 = .int .i64 (cnt (l.take k) z) ∧ ∃ n, wr = w.drewN n) (fun _ vi _ => l.length - (intOf vi).toNat)
  case atStart => exact ⟨0, Nat.zero_le _, rfl, rfl, 0, rfl⟩
  case round =>
    obtain ⟨k, hk, rfl, rfl, n, rfl⟩ := hrel
    by_cases hlk : k < l.length
    · obtain ⟨b, off, cap, e, d0⟩ := nis_at Hx.out hlk
      injection e with e1 e2 e3
      subst e1
      clear e2 e3
      have hct := cnt_take hlk z
      have hcl := cnt_le (l.take k) z
      have hcl2 : (l.take k).length ≤ l.length := by rw [List.length_take]; omega
      have i1 : (0 : Int) ≤ (k : Int) := by omega
      have i2 : (k : Int) < (l.length : Int) := by omega
      obtain ⟨cn, hcn⟩ : ∃ cn, cnt (l.take k) z = cn := ⟨_, rfl⟩
      rw [hcn] at hct hcl ⊢
      have hcb : cn ≤ 1000000 := by omega
      by_cases h0 : k = 0
      · have g0 : decide ((0 : Int) < (k : Int)) = false := by rw [h0]; simp
        have g1 : decide (0 < k) = false := by rw [h0]; rfl
        have hg : Hid (k = 0) := h0
        clear h0
        by_cases hz : l[k] = z
        · rw [if_pos hz] at hct
          have Hct := hide hct
          have hz1 : (l[k] == z) = true := by simpa using hz
          clear hct hz hcn
          go_wp2_with fail
          go_quiet (fail)
          go_wp2
          go_roundw
          case rel => exact ⟨k + 1, by omega, by go_num, by rw [Hct.out]; go_num, _, rfl⟩
          case measure => simp [intOf]; omega
        · rw [if_neg hz] at hct
          have Hct := hide hct
          have hz1 : (l[k] == z) = false := by simpa using hz
          clear hct hz hcn
          go_wp2_with fail
          go_quiet (fail)
          go_wp2
          go_roundw
          case rel => exact ⟨k + 1, by omega, by go_num, by rw [Hct.out]; rfl, _, rfl⟩
          case measure => simp [intOf]; omega
      · have g0 : decide ((0 : Int) < (k : Int)) = true := by simp; omega
        have g1 : decide (0 < k) = true := by simp; omega
        have hlk1 : k - 1 < l.length := by omega
        obtain ⟨b', off', cap', e, d1⟩ := nis_at Hx.out hlk1
        injection e with e1 e2 e3
        injection e1 with e1
        injection e1 with e1 e4 _
        subst e1 e4
        clear e2 e3
        have hlt := Ha.out (k - 1) k hlk1 hlk (by omega)
        have hle : decide (l[k] ≤ l[k - 1]) = false := by simp; omega
        have j1 : (0 : Int) ≤ (k : Int) - 1 := by omega
        have j2 : (k : Int) - 1 < (l.length : Int) := by omega
        have j3 : ((k : Int) - 1).toNat = k - 1 := by omega
        obtain ⟨y, hy⟩ : ∃ y, l[k - 1] = y := ⟨_, rfl⟩
        rw [hy] at d1 hle
        have hg : Hid (¬ k = 0) := h0
        clear h0 hlt hy
        by_cases hz : l[k] = z
        · rw [if_pos hz] at hct
          have Hct := hide hct
          have hz1 : (l[k] == z) = true := by simpa using hz
          clear hct hz hcn
          go_wp2_with fail
          go_quiet (fail)
          go_wp2
          go_roundw
          case rel => exact ⟨k + 1, by omega, by go_num, by rw [Hct.out]; go_num, _, rfl⟩
          case measure => simp [intOf]; omega
        · rw [if_neg hz] at hct
          have Hct := hide hct
          have hz1 : (l[k] == z) = false := by simpa using hz
          clear hct hz hcn
          go_wp2_with fail
          go_quiet (fail)
          go_wp2
          go_roundw
          case rel => exact ⟨k + 1, by omega, by go_num, by rw [Hct.out]; rfl, _, rfl⟩
          case measure => simp [intOf]; omega
    · obtain rfl : k = l.length := by omega
      rw [List.take_length]
      go_wp2
      go_ret
      exact ⟨rfl, _, rfl⟩
end Go.Proofs.Ytmcajoccfbebiaa
