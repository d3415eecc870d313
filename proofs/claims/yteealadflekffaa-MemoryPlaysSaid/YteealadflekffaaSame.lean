/- The contract of witanref05.Same. -/
import Derived.Test.YteealadflekffaaVals
namespace Go.Proofs.Yteealadflekffaa
open Go Go.RowKit Go.MapKept

set_option maxHeartbeats 400000 in
theorem same_some (b off c b' off' c' : Nat) (l m : List Vl) (w : World) (hl : l.length ≤ 1000000) (hlm : m.length = l.length) (hc : CellsAt w b off l) (hc' : CellsAt w b' off' m) :
    Calls Try.prog 23 #[.slice (some ⟨b, off, none⟩) l.length c, .slice (some ⟨b', off', none⟩) l.length c'] w fun e w' => e = .returned (.bool (decide (l = m))) ∧ ∃ n, w' = w.drewN n := by
  go_enter Try.func23, Try.ntmps23
  have Hlm := hide hlm
  clear hlm
  go_wp2
  go_loopw [5] (fun i wr => ∃ k : Nat, k ≤ l.length ∧ i = .int .i64 k ∧ Hid (l.take k = m.take k) ∧ ∃ n, wr = w.drewN n) (fun i _ => l.length - (intOf i).toNat)
  case atStart => exact ⟨0, Nat.zero_le _, rfl, rfl, 0, rfl⟩
  case round =>
    obtain ⟨k, hk, rfl, hrel, n, rfl⟩ := hrel
    by_cases hlt : k < l.length
    · have hlt' : k < m.length := by rw [Hlm.out]; exact hlt
      obtain ⟨c0, c1, c2⟩ := hc k hlt
      obtain ⟨d0, d1, d2⟩ := hc' k hlt'
      have hneq := neq_vl l[k] m[k]
      by_cases he : l[k] = m[k]
      · have he' : decide (l[k] ≠ m[k]) = false := by simpa using he
        have He := hide he
        rw [he'] at hneq
        clear he he'
        have i1 : (0 : Int) ≤ (k : Int) := by omega
        have i2 : (k : Int) < (l.length : Int) := by omega
        go_wp2_with fail
        go_quiet (fail)
        go_wp2
        go_roundw
        case rel => exact ⟨k + 1, by omega, by go_num, by
          have h := hrel.out
          rw [Hid, List.take_succ_eq_append_getElem hlt, List.take_succ_eq_append_getElem hlt', h, He.out], _, rfl⟩
        case measure => simp [intOf]; omega
      · have he' : decide (l[k] ≠ m[k]) = true := by simpa using he
        have He := hide he
        rw [he'] at hneq
        clear he he'
        have i1 : (0 : Int) ≤ (k : Int) := by omega
        have i2 : (k : Int) < (l.length : Int) := by omega
        go_wp2_with fail
        go_quiet (fail)
        go_wp2
        go_ret
        refine ⟨?_, _, World.drewN_drewN _ _ _⟩
        have h : ¬ l = m := fun e => He.out (by subst e; rfl)
        simp [h]
    · go_wp2
      go_ret
      refine ⟨?_, _, rfl⟩
      have hk' : k = l.length := by omega
      have h := hrel.out
      rw [hk', List.take_length, ← Hlm.out, List.take_length] at h
      simp [h]


theorem same_any (x y : Value) (l m : List Vl) (w : World) (hx : SlIs w x l) (hy : SlIs w y m) :
    Calls Try.prog 23 #[x, y] w fun e w' => e = .returned (.bool (decide (l = m))) ∧ ∃ n, w' = w.drewN n := by
  have lens : ∀ (a a' : Option Addr) (n n' c c' : Nat), n ≤ 1000000 → n' ≤ 1000000 → n ≠ n' → l ≠ m → Calls Try.prog 23 #[.slice a n c, .slice a' n' c'] w fun e w' => e = .returned (.bool (decide (l = m))) ∧ ∃ n, w' = w.drewN n := by
    intro a a' n n' c c' h1 h2 hne hlm
    have hb : ((n : Int) == (n' : Int)) = false := by simp; omega
    have Hlm := hide hlm
    clear hlm
    go_enter Try.func23, Try.ntmps23
    go_wp2
    go_ret
    exact ⟨by simp [Hlm.out], 0, rfl⟩
  have zero : ∀ (a a' : Option Addr) (c c' : Nat), l = m → Calls Try.prog 23 #[.slice a 0 c, .slice a' 0 c'] w fun e w' => e = .returned (.bool (decide (l = m))) ∧ ∃ n, w' = w.drewN n := by
    intro a a' c c' hlm
    have Hlm := hide hlm
    clear hlm
    go_enter Try.func23, Try.ntmps23
    go_wp2
    go_loopw [5] (fun i wr => i = .int .i64 0 ∧ wr = w) (fun _ _ => 0)
    case atStart => exact ⟨rfl, rfl⟩
    case round =>
      obtain ⟨rfl, rfl⟩ := hrel
      go_wp2
      go_ret
      exact ⟨by simp [Hlm.out], 0, rfl⟩
  obtain ⟨lx, hx⟩ := hx
  obtain ⟨ly, hy⟩ := hy
  rcases hx with ⟨b, off, cap, rfl, hc⟩ | ⟨rfl, hx⟩
  · rcases hy with ⟨b', off', cap', rfl, hc'⟩ | ⟨rfl, hy⟩
    · by_cases h : l.length = m.length
      · have := same_some b off cap b' off' cap' l m w lx h.symm hc hc'
        rw [h] at this ⊢
        exact this
      · exact lens _ _ _ _ _ _ lx ly h fun e => h (by rw [e])
    · by_cases h : l = []
      · subst h
        rcases hy with rfl | ⟨a, c, rfl⟩
        · exact zero _ _ _ _ rfl
        · exact zero _ _ _ _ rfl
      · have hl : l.length ≠ 0 := fun e => h (List.eq_nil_of_length_eq_zero e)
        rcases hy with rfl | ⟨a, c, rfl⟩
        · exact lens _ _ _ _ _ _ lx (by omega) hl h
        · exact lens _ _ _ _ _ _ lx (by omega) hl h
  · rcases hy with ⟨b', off', cap', rfl, hc'⟩ | ⟨rfl, hy⟩
    · by_cases h : m = []
      · subst h
        rcases hx with rfl | ⟨a, c, rfl⟩
        · exact zero _ _ _ _ rfl
        · exact zero _ _ _ _ rfl
      · have hl : 0 ≠ m.length := fun e => h (List.eq_nil_of_length_eq_zero e.symm)
        rcases hx with rfl | ⟨a, c, rfl⟩
        · exact lens _ _ _ _ _ _ (by omega) ly hl (Ne.symm h)
        · exact lens _ _ _ _ _ _ (by omega) ly hl (Ne.symm h)
    · rcases hx with rfl | ⟨a, c, rfl⟩ <;> rcases hy with rfl | ⟨a', c', rfl⟩ <;> exact zero _ _ _ _ rfl



end Go.Proofs.Yteealadflekffaa
