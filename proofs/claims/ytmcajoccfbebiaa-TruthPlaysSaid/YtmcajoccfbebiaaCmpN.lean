/- The contracts of slices.Compare on slices of int. -/
import Derived.Test.YtmcajoccfbebiaaNis
namespace Go.Proofs.Ytmcajoccfbebiaa
open Go Go.RowKit Go.MapKept Go.Sort Go.Shelf

/-- Which of two lists is ahead: -1, 0, 1. -/
def cmpL : List Int → List Int → Int
  | [], [] => 0
  | [], _ :: _ => -1
  | _ :: _, [] => 1
  | x :: l, y :: m => if Lib.compareInt x y = 0 then cmpL l m else Lib.compareInt x y

theorem cmpL_range (l m : List Int) : cmpL l m = -1 ∨ cmpL l m = 0 ∨ cmpL l m = 1 := by
  induction l generalizing m with
  | nil => cases m <;> simp [cmpL]
  | cons x l ih =>
    cases m with
    | nil => simp [cmpL]
    | cons y m =>
      unfold cmpL
      split
      · exact ih m
      · unfold Lib.compareInt
        split
        · exact .inl rfl
        · split
          · exact .inr (.inr rfl)
          · exact .inr (.inl rfl)

theorem NIs.at {w : World} {x : Value} {l : List Int} (h : NIs w x l) {k : Nat} (hk : k < l.length) : ∃ b off cap, x = .slice (some ⟨b, off, none⟩) l.length cap ∧ w.cell? ⟨b, off + k, none⟩ = some (.int .i64 l[k]) := by
  rcases h.2 with ⟨b, off, cap, rfl, hi⟩ | ⟨rfl, _⟩
  · exact ⟨b, off, cap, rfl, hi k hk⟩
  · simp at hk

theorem cmpL_step {l m : List Int} {k : Nat} (h1 : k < l.length) (h2 : k < m.length) : cmpL (l.drop k) (m.drop k) = if Lib.compareInt l[k] m[k] = 0 then cmpL (l.drop (k + 1)) (m.drop (k + 1)) else Lib.compareInt l[k] m[k] := by
  rw [List.drop_eq_getElem_cons h1, List.drop_eq_getElem_cons h2, cmpL]

set_option maxHeartbeats 400000 in
theorem ncompare (x y : Value) (l m : List Int) (w : World) (hx : NIs w x l) (hy : NIs w y m) :
    Calls Try.prog 68 #[x, y] w fun e w' => e = .returned (.int .i64 (cmpL l m)) ∧ w' = w := by
  have hl := hx.1
  have hm := hy.1
  obtain ⟨xa, xc, rfl⟩ := hx.form
  obtain ⟨ya, yc, rfl⟩ := hy.form
  have Hx := hide hx
  have Hy := hide hy
  clear hx hy
  go_enter Try.func68, Try.ntmps68
  go_wp2_with fail
  go_loopw [11] (fun i wr => ∃ k : Nat, k ≤ l.length ∧ k ≤ m.length ∧ i = .int .i64 k ∧ Hid (cmpL (l.drop k) (m.drop k) = cmpL l m) ∧ wr = w) (fun i _ => l.length - (intOf i).toNat)
  case atStart => exact ⟨0, Nat.zero_le _, Nat.zero_le _, rfl, rfl, rfl⟩
  case round =>
    obtain ⟨k, hk, hkm, rfl, hc, rfl⟩ := hrel
    by_cases hlt : k < l.length
    · obtain ⟨b, off, cap, e, c0⟩ := Hx.out.at hlt
      injection e with e1 e2 e3
      subst e1 e3
      clear e2
      by_cases hlm : k < m.length
      · obtain ⟨b', off', cap', e, d0⟩ := Hy.out.at hlm
        injection e with e1 e2 e3
        subst e1 e3
        clear e2
        have hstep := cmpL_step hlt hlm
        rw [hc.out] at hstep
        obtain ⟨p, hp⟩ : ∃ p, l[k] = p := ⟨_, rfl⟩
        obtain ⟨q, hq⟩ : ∃ q, m[k] = q := ⟨_, rfl⟩
        rw [hp] at c0 hstep
        rw [hq] at d0 hstep
        have Hstep := hide hstep
        clear hp hq hstep
        go_wp2_with fail
        refine (Try.cmp_Compare_int p q _).mono ?_
        rintro e w' ⟨rfl, rfl⟩
        by_cases hz : Lib.compareInt p q = 0
        · have hzb : (Lib.compareInt p q != 0) = false := by simpa using hz
          have Hz := hide hz
          clear hz
          go_wp2
          go_roundw
          case rel => exact ⟨k + 1, by omega, by omega, by go_num, by have := Hstep.out; rw [if_pos Hz.out] at this; exact this.symm, trivial⟩
          case measure => simp [intOf]; omega
        · have hzb : (Lib.compareInt p q != 0) = true := by simpa using hz
          have Hz := hide hz
          clear hz
          go_wp2
          go_ret
          have := Hstep.out
          rw [if_neg Hz.out] at this
          exact ⟨by rw [this]; rfl, rfl⟩
      · have hkm2 : m.length = k := by omega
        subst hkm2
        go_wp2_with fail
        go_ret
        refine ⟨?_, rfl⟩
        rw [← hc.out, List.drop_length, List.drop_eq_getElem_cons hlt, cmpL]
        rfl
    · obtain rfl : k = l.length := by omega
      by_cases hlm : l.length < m.length
      · have hlm' : (l.length : Int) < (m.length : Int) := by omega
        go_wp2_with fail
        go_ret
        refine ⟨?_, rfl⟩
        rw [← hc.out, List.drop_length, List.drop_eq_getElem_cons hlm, cmpL]
        rfl
      · have hlm' : ¬ (l.length : Int) < (m.length : Int) := by omega
        go_wp2_with fail
        go_ret
        refine ⟨?_, rfl⟩
        rw [← hc.out, List.drop_length, List.drop_eq_nil_of_le (by omega), cmpL]
        rfl
end Go.Proofs.Ytmcajoccfbebiaa
