/- MemoryPlays: the ways out ahead of the loop. -/
import Derived.Test.YteealadflekffaaRM6
import Derived.Test.YteealadflekffaaKnown5
import Derived.Test.YteealadflekffaaArgs
namespace Go.Proofs.Yteealadflekffaa
open Go Go.RowKit Go.MapKept

theorem new_bad (n : Int) (h : n < 1 ∨ 200 < n) (w : World) :
    Calls Try.prog 9 #[.int .i64 n] w fun e w' => e = .returned (.tuple #[.pointer none, .int .i64 2]) ∧ w = w' := by
  by_cases h1 : n < 1
  · clear h
    go_enter Try.func9, Try.ntmps9
    go_wp2
    go_ret2
    exact ⟨rfl, rfl⟩
  · have h2 : 200 < n := by omega
    have d : decide (n < 1) = false := by simpa using h1
    clear h h1
    go_enter Try.func9, Try.ntmps9
    go_wp2
    go_ret2
    exact ⟨rfl, rfl⟩

set_option maxRecDepth 100000 in
theorem plays_long (lim id t : Int) (la sa : Option Addr) (ln lc sn sc : Nat) (w : World) (hl : ln ≤ 9223372036854775807) (hs : sn ≤ 9223372036854775807) (h : 100 < ln ∨ 10 < sn) :
    Calls Try.prog 8 #[.int .i64 lim, .slice la ln lc, .int .i64 id, .int .i64 t, .slice sa sn sc] w fun e w' => e = .returned (.bool true) ∧ Below w.heap.size w w' := by
  by_cases h1 : 100 < ln
  · have d : (100 : Int) < ln := by omega
    clear h h1
    go_enter Try.func8, Try.ntmps8
    go_wp2_with (go_at_call 16; refine (known5 _).mono ?_; rintro e w' ⟨rfl, hb⟩)
    go_ret
    exact ⟨rfl, hb⟩
  · have d : decide ((100 : Int) < ln) = false := by simp; omega
    have d2 : (10 : Int) < sn := by omega
    clear h h1
    go_enter Try.func8, Try.ntmps8
    go_wp2_with (go_at_call 16; refine (known5 _).mono ?_; rintro e w' ⟨rfl, hb⟩)
    go_ret
    exact ⟨rfl, hb⟩

set_option maxRecDepth 100000 in
theorem plays_bad (lim id t : Int) (la sa : Option Addr) (ln lc sn sc : Nat) (w : World) (hl : ln ≤ 100) (hs : sn ≤ 10) (h : lim < 1 ∨ 200 < lim) :
    Calls Try.prog 8 #[.int .i64 lim, .slice la ln lc, .int .i64 id, .int .i64 t, .slice sa sn sc] w fun e w' => e = .returned (.bool true) ∧ Below w.heap.size w w' := by
  have d : decide ((100 : Int) < ln) = false := by simp; omega
  have d2 : decide ((10 : Int) < sn) = false := by simp; omega
  have HN := hide (new_bad lim h w)
  by_cases h1 : lim < 1
  · have e1 : decide (lim < 1) = true := by simpa using h1
    clear h
    go_enter Try.func8, Try.ntmps8
    go_wp2_with fail
    (with_reducible refine HN.out.mono ?_)
    rintro e V ⟨rfl, rfl⟩
    go_wp2_with (go_at_call 16; refine (known5 _).mono ?_; rintro e w' ⟨rfl, hb⟩)
    go_ret
    exact ⟨rfl, hb⟩
  · have e1 : decide (lim < 1) = false := by simpa using h1
    have e2 : 200 < lim := by omega
    clear h h1
    go_enter Try.func8, Try.ntmps8
    go_wp2_with fail
    (with_reducible refine HN.out.mono ?_)
    rintro e V ⟨rfl, rfl⟩
    go_wp2_with (go_at_call 16; refine (known5 _).mono ?_; rintro e w' ⟨rfl, hb⟩)
    go_ret
    exact ⟨rfl, hb⟩
end Go.Proofs.Yteealadflekffaa
