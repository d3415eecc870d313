/- witanref06.Same, where it says yes. -/
import Derived.Test.YtlodonnnbjcejaaGreatDoorLx9
namespace Go.Proofs.YtlodonnnbjcejaaGreatDoor
open Go Go.RowKit Go.Lib Go.Sort Go.Shelf

set_option maxRecDepth 100000 in
set_option maxHeartbeats 4000000 in
theorem same_yes (x y : Value) (xs ys : List Tkn) (bare : Bool) (w : World) (hx : TkIs w x xs) (hy : TkIs w y ys) (he : xs.map Tkn.w = ys.map Tkn.w) (hp : bare = false → xs = ys) (hlen : xs.length ≤ 100000) :
    Calls Tryz.prog 15 #[x, y, .bool bare] w fun e w' => e = .returned (.bool true) ∧ Below w.heap.size w w' := by
  have hl : ys.length = xs.length := by have := congrArg List.length he; simpa using this.symm
  obtain ⟨xa, xc, rfl⟩ := hx.form
  obtain ⟨ya, yc, rfl⟩ := hy.form
  have hat : ∀ (k : Nat) (V : World), k < xs.length → Below w.heap.size w V → ∃ (b b' c c' : Nat) (l1 c1 l2 c2 : Int) (W : Wd), Value.slice xa xs.length xc = .slice (some ⟨b, 0, none⟩) xs.length c ∧ Value.slice ya xs.length yc = .slice (some ⟨b', 0, none⟩) xs.length c' ∧ b < V.heap.size ∧ b' < V.heap.size ∧
      TokRow V b k W l1 c1 ∧ TokRow V b' k W l2 c2 ∧ (bare = false → l1 = l2 ∧ c1 = c2) := fun k V hk hV => by
    obtain ⟨b, c, e1, hb1, r1⟩ := (hx.below hV).at hk
    have hk' : k < ys.length := by omega
    obtain ⟨b', c', e2, hb2, r2⟩ := (hy.below hV).at hk'
    have hw : xs[k].w = ys[k].w := by
      have h1 : (xs.map Tkn.w)[k]? = (ys.map Tkn.w)[k]? := by rw [he]
      simpa [List.getElem?_eq_getElem hk, List.getElem?_eq_getElem hk'] using h1
    rw [← hw] at r2
    refine ⟨b, b', c, c', _, _, _, _, _, e1, by rw [← hl]; exact e2, hb1, hb2, r1, r2, fun hb => ?_⟩
    have := hp hb
    subst this
    exact ⟨rfl, rfl⟩
  rw [hl]
  have Hat := hide hat
  clear hat hx hy he hp hl
  go_enter Tryz.func15, Tryz.ntmps15
  go_wp2
  go_loopw [7] (fun v7 wr => ∃ k : Nat, k ≤ xs.length ∧ v7 = .int .i64 k ∧ Hid (Below w.heap.size w wr)) (fun v7 _ => xs.length - (intOf v7).toNat)
  case atStart => exact ⟨0, Nat.zero_le _, rfl, Below.refl _ _⟩
  case round =>
    obtain ⟨k, hk, rfl, hq⟩ := hrel
    by_cases hlk : k < xs.length
    · obtain ⟨b, b', c, c', l1, c1, l2, c2, W, e1, e2, hb1, hb2, ⟨a0, a1, a2, a3, a4, a5, a6⟩, ⟨d0, d1, d2, d3, d4, d5, d6⟩, hpl⟩ := Hat.out k wr hlk hq.out
      injection e1 with e1a _ e1c
      injection e2 with e2a _ e2c
      subst e1a e1c e2a e2c
      obtain ⟨wk, wt, v1, v2, v3⟩ := W
      simp only at a0 a1 a2 a3 a4 a5 a6 d0 d1 d2 d3 d4 d5 d6
      have Hb1 := hide hq.out.size
      cases bare with
      | false =>
        obtain ⟨rfl, rfl⟩ := hpl rfl
        go_wp2_with fail
        go_region
        all_goals
          go_wp2
          go_roundw
          case rel => exact ⟨k + 1, by omega, by go_num, ((hq.out.alloc hq.out.size _).alloc (by have := hq.out.size; simp; omega) _).drew⟩
          case measure => simp [intOf]; omega
      | true =>
        go_wp2_with fail
        go_region
        all_goals
          go_wp2
          go_roundw
          case rel => exact ⟨k + 1, by omega, by go_num, ((hq.out.alloc hq.out.size _).alloc (by have := hq.out.size; simp; omega) _).drew⟩
          case measure => simp [intOf]; omega
    · obtain rfl : k = xs.length := by omega
      go_wp2
      go_ret
      exact ⟨rfl, hq.out⟩
end Go.Proofs.YtlodonnnbjcejaaGreatDoor
