/- The walk of witanlaw26.OrderVectors. -/
import Derived.Test.YteealadflekffaaKnown26
namespace Go.Proofs.Yteealadflekffaa
open Go Go.RowKit Go.MapKept Go.Sort Go.Shelf

theorem falls_perm (l : List Int) : (falls l).Perm l := (List.reverse_perm _).trans (List.mergeSort_perm _ _)
theorem falls_down (l : List Int) : (falls l).Pairwise (fun x y => y ≤ x) := by
  unfold falls
  rw [List.pairwise_reverse]
  have := List.pairwise_mergeSort (le := fun x y : Int => decide (x ≤ y)) (fun a b c h1 h2 => by simp at *; omega) (fun a b => by simp; omega) l
  exact this.imp fun h => by simpa using h
theorem falls_count (l : List Int) (x : Int) : (falls l).count x = l.count x := (falls_perm l).count_eq x
theorem falls_head {l r : List Int} {y : Int} (h : falls l = y :: r) : y ∈ l ∧ ∀ x ∈ l, x ≤ y := by
  have hp := falls_perm l
  have hd := falls_down l
  rw [h] at hp hd
  refine ⟨hp.subset (.head _), fun x hx => ?_⟩
  rcases List.mem_cons.1 (hp.symm.subset hx) with rfl | hx
  · exact Int.le_refl _
  · exact (List.pairwise_cons.1 hd).1 x hx

/-- Is x one of l? -/
def hasInt (l : List Int) (x : Int) : Bool := l.any (fun y => y == x)
theorem hasInt_snoc (l : List Int) (y x : Int) : hasInt (l ++ [y]) x = (hasInt l x || y == x) := by simp [hasInt]

theorem vec_other {s : Int} {l : List Int} (hs : s ≠ 3) : (l = [] ∧ vec s l = [0]) ∨ ∃ y r, falls l = y :: r ∧ vec s l = [y] := by
  cases hf : falls l with
  | nil =>
    have := falls_length l
    rw [hf] at this
    exact .inl ⟨List.eq_nil_of_length_eq_zero this.symm, by simp [vec, hs, hf]⟩
  | cons y r => exact .inr ⟨y, r, rfl, by simp [vec, hs, hf]⟩

theorem count_step (l : List Int) (x : Int) {j : Nat} (h : j < l.length) : ((l.take (j + 1)).count x : Int) = (l.take j).count x + (if l[j] == x then 1 else 0) := by
  rw [List.take_succ_eq_append_getElem h, List.count_append, List.count_singleton]
  split <;> simp

theorem count_le (l : List Int) (x : Int) (j : Nat) : ((l.take j).count x : Int) ≤ j ∧ 0 ≤ ((l.take j).count x : Int) := by
  have := List.count_le_length (a := x) (l := l.take j)
  have := List.length_take_le j l
  omega

set_option maxRecDepth 100000 in
set_option maxHeartbeats 1000000 in
theorem vectors_walk (s : Int) (a : Option Addr) (n c : Nat) (w : World) (hn : n ≤ 9223372036854775807) (hx : n ≤ 1000000 → ∃ l, l.length = n ∧ NIs w (.slice a n c) l) :
    Calls Try.prog 4 #[.int .u8 s, .slice a n c] w fun e w' => e = .returned (.bool true) ∧ Below w.heap.size w w' := by
  by_cases hbig : (20 : Int) < (n : Int)
  · go_enter Try.func4, Try.ntmps4
    go_wp2_with (go_at_call 17; refine (known_walk _).mono ?_; rintro e w' ⟨rfl, hb⟩)
    go_ret
    exact ⟨rfl, hb⟩
  obtain ⟨l, hl, hnis⟩ := hx (by omega)
  subst hl
  have Hvec := hide (vector_any s _ l w hnis)
  have Hn := hide hnis
  clear hx hnis
  by_cases hs : s = 3
  · subst hs
    have hf : vec 3 l = falls l := by simp [vec]
    rw [hf] at Hvec
    clear hf
    go_enter Try.func4, Try.ntmps4
    go_wp2_with fail
    refine Hvec.out.mono ?_
    rintro e w1 ⟨v, rfl, hv, _, hb⟩
    have hfl := falls_length l
    obtain ⟨f, hfe⟩ : ∃ f, falls l = f := ⟨_, rfl⟩
    rw [hfe] at hv hfl
    have Hcount : Hid (∀ x, f.count x = l.count x) := fun x => by rw [← hfe]; exact falls_count l x
    have Hdown : Hid (f.Pairwise (fun x y => y ≤ x)) := by rw [← hfe]; exact falls_down l
    obtain ⟨va, vc, rfl⟩ := hv.form
    have Hv := hide hv
    have Hb := hide hb
    have Hn1 := hide (Hn.out.below hb)
    have Hfl := hide hfl
    clear hv hb hfe Hvec Hn
    rw [hfl]
    clear hfl
    go_wp2_with fail
    go_loopw [70] (fun i wr => ∃ k : Nat, k ≤ l.length ∧ i = .int .i64 k ∧ wr = w1) (fun i _ => l.length - (intOf i).toNat)
    case atStart => exact ⟨0, Nat.zero_le _, rfl, rfl⟩
    case round =>
      obtain ⟨k, hk, rfl, rfl⟩ := hrel
      by_cases hlt : k < l.length
      · have hltf : k < f.length := by have := Hfl.out; omega
        obtain ⟨b, o, cp, e, d0⟩ := Hv.out.at hltf
        injection e with e1 e2 e3
        subst e1 e3
        clear e2
        obtain ⟨b2, o2, cp2, e, _⟩ := Hn1.out.at hlt
        injection e with e1 e2 e3
        subst e1 e3
        clear e2
        have hprev : k ≠ 0 → ∃ (k' : Nat) (p : Int), k = k' + 1 ∧ wr.cell? ⟨b, o + k', none⟩ = some (.int .i64 p) ∧ f[k] ≤ p := by
          intro h0
          obtain ⟨k', rfl⟩ : ∃ k', k = k' + 1 := ⟨k - 1, by omega⟩
          obtain ⟨b', o', cp', e, d1⟩ := Hv.out.at (k := k') (by omega)
          injection e with e1 e2 e3
          injection e1 with e1
          injection e1 with e1 e4 e5
          subst e1 e4
          exact ⟨k', f[k'], rfl, d1, List.pairwise_iff_getElem.1 Hdown.out k' (k' + 1) (by omega) hltf (by omega)⟩
        obtain ⟨x, hx⟩ : ∃ x, f[k] = x := ⟨_, rfl⟩
        rw [hx] at d0 hprev
        have Hprev := hide hprev
        clear hx hprev
        go_wp2_with fail
        go_loopw [11, 77] (fun c j wr' => ∃ q : Nat, q ≤ l.length ∧ j = .int .i64 q ∧ c = .int .i64 (((f.take q).count x : Int) - (l.take q).count x) ∧ wr' = wr) (fun _ j _ => l.length - (intOf j).toNat)
        case atStart => exact ⟨0, Nat.zero_le _, rfl, by simp, rfl⟩
        case round =>
          obtain ⟨q, hq, rfl, rfl, rfl⟩ := hrel
          by_cases hql : q < l.length
          · have hqf : q < f.length := by have := Hfl.out; omega
            obtain ⟨b', o', cp', e, d1⟩ := Hv.out.at hqf
            injection e with e1 e2 e3
            injection e1 with e1
            injection e1 with e1 e4 e5
            subst e1 e4
            obtain ⟨b', o', cp', e, d2⟩ := Hn1.out.at hql
            injection e with e1 e2 e3
            injection e1 with e1
            injection e1 with e1 e4 e5
            subst e1 e4
            have s1 := count_step f x hqf
            have s2 := count_step l x hql
            have b1 := count_le f x q
            have b2 := count_le l x q
            obtain ⟨y, hy⟩ : ∃ y, f[q] = y := ⟨_, rfl⟩
            obtain ⟨z, hz⟩ : ∃ z, l[q] = z := ⟨_, rfl⟩
            obtain ⟨n1, hn1⟩ : ∃ n1, ((f.take q).count x : Int) = n1 := ⟨_, rfl⟩
            obtain ⟨n2, hn2⟩ : ∃ n2, ((l.take q).count x : Int) = n2 := ⟨_, rfl⟩
            rw [hy] at d1 s1
            rw [hz] at d2 s2
            rw [hn1] at s1 b1
            rw [hn2] at s2 b2
            rw [hn1, hn2]
            have S1 := hide s1
            have S2 := hide s2
            clear hy hz hn1 hn2 s1 s2 e2 e3 e5
            have w1' : IntKind.i64.wrap (n1 - n2 + 1) = n1 - n2 + 1 := IntWalk.i64_in _ (by omega)
            have w2' : IntKind.i64.wrap (n1 - n2 - 1) = n1 - n2 - 1 := IntWalk.i64_in _ (by omega)
            have w3' : IntKind.i64.wrap (n1 - n2 + 1 - 1) = n1 - n2 + 1 - 1 := IntWalk.i64_in _ (by omega)
            cases hyx : (y == x) <;> cases hzx : (z == x)
            all_goals
              have Hyx := hide hyx
              have Hzx := hide hzx
              go_wp2
              go_roundw
              case rel => exact ⟨q + 1, by omega, by go_num, congrArg (Value.int .i64) (by rw [S1.out, S2.out, Hyx.out, Hzx.out]; simp; try omega), by first | rfl | trivial⟩
              case measure => simp [intOf]; omega
          · obtain rfl : q = l.length := by omega
            have hz : ((f.take l.length).count x : Int) - (l.take l.length).count x = 0 := by
              rw [List.take_length, ← Hfl.out, List.take_length, Hcount.out]
              omega
            rw [hz]
            clear hz
            by_cases hk0 : k = 0
            · subst hk0
              clear Hprev
              go_wp2
              go_roundw
              case rel => exact ⟨0 + 1, by omega, by go_num, by first | rfl | trivial⟩
              case measure => simp [intOf]; omega
            · obtain ⟨k', p, rfl, d3, hle⟩ := Hprev.out hk0
              clear Hprev
              have hkb : decide ((0 : Int) < (k' : Int) + 1) = true := decide_eq_true (by omega)
              have hxp : decide (p < x) = false := decide_eq_false (by omega)
              have hwr : IntKind.i64.wrap (k' : Int) = k' := IntWalk.i64_in _ (by omega)
              have i2 : (k' : Int) < (l.length : Int) := by omega
              have i3 : (k' : Int) < (f.length : Int) := by omega
              go_wp2
              go_roundw
              case rel => exact ⟨k' + 1 + 1, by omega, by go_num, by first | rfl | trivial⟩
              case measure => simp [intOf]; omega
      · obtain rfl : k = l.length := by omega
        go_wp2_with (go_at_call 17; refine (known_walk _).mono ?_; rintro e w' ⟨rfl, hk⟩)
        go_ret
        exact ⟨rfl, Hb.out.trans (hk.mono Hb.out.size)⟩
  · have hsb : (s != 3) = true := by simpa using hs
    have Hs := hide hs
    clear hs
    go_enter Try.func4, Try.ntmps4
    go_wp2_with fail
    refine Hvec.out.mono ?_
    rintro e w1 ⟨v, rfl, hv, _, hb⟩
    have hv1 := hv.form
    obtain ⟨y, hvec, hy⟩ : ∃ y, vec s l = [y] ∧ (l = [] ∧ y = 0 ∨ y ∈ l ∧ ∀ x ∈ l, x ≤ y) := by
      rcases vec_other (l := l) Hs.out with ⟨h1, h2⟩ | ⟨y, r, h1, h2⟩
      · exact ⟨0, h2, .inl ⟨h1, rfl⟩⟩
      · exact ⟨y, h2, .inr (falls_head h1)⟩
    rw [hvec] at hv
    obtain ⟨g, off, cap, rfl, c0⟩ := hv.at (k := 0) (by simp)
    have c0' : w1.cell? ⟨g, off, none⟩ = some (.int .i64 y) := c0
    simp only [List.length_singleton]
    have Hv := hide hv
    have Hb := hide hb
    have Hy := hide hy
    have Hn1 := hide (Hn.out.below hb)
    clear hv hb hy c0 hv1 hvec Hvec Hn
    rcases Hy.out with ⟨rfl, rfl⟩ | hym
    · go_wp2_with fail
      go_loopw [6, 41] (fun t i wr => i = .int .i64 0 ∧ t = .bool true ∧ wr = w1) (fun _ _ _ => 0)
      case atStart => exact ⟨rfl, rfl, rfl⟩
      case round =>
        obtain ⟨rfl, rfl, rfl⟩ := hrel
        go_wp2_with (go_at_call 17; refine (known_walk _).mono ?_; rintro e w' ⟨rfl, hk⟩)
        go_ret
        exact ⟨rfl, Hb.out.trans (hk.mono Hb.out.size)⟩
    · obtain ⟨hmem, hmax⟩ := hym
      have hpos : 0 < l.length := List.length_pos_of_mem hmem
      have hlb : ((l.length : Int) == 0) = false := by rw [beq_eq_false_iff_ne]; omega
      obtain ⟨b, o, cp, e, _⟩ := Hn1.out.at hpos
      injection e with e1 e2 e3
      subst e1 e3
      clear e2
      have Hmem := hide hmem
      have Hmax := hide hmax
      clear hmem hmax Hy
      go_wp2_with fail
      go_loopw [6, 41] (fun t i wr => ∃ k : Nat, k ≤ l.length ∧ i = .int .i64 k ∧ t = .bool (hasInt (l.take k) y) ∧ wr = w1) (fun _ i _ => l.length - (intOf i).toNat)
      case atStart => exact ⟨0, Nat.zero_le _, rfl, rfl, rfl⟩
      case round =>
        obtain ⟨k, hk, rfl, rfl, rfl⟩ := hrel
        by_cases hlt : k < l.length
        · obtain ⟨b', o', cp', e, d0⟩ := Hn1.out.at hlt
          injection e with e1 e2 e3
          injection e1 with e1
          injection e1 with e1 e4 e5
          subst e1 e3 e4
          clear e2 e5
          have hkey : hasInt (l.take (k + 1)) y = (hasInt (l.take k) y || l[k] == y) := by
            rw [List.take_succ_eq_append_getElem hlt, hasInt_snoc]
          have hle := Hmax.out l[k] (List.getElem_mem hlt)
          obtain ⟨x, hx⟩ : ∃ x, l[k] = x := ⟨_, rfl⟩
          rw [hx] at d0 hkey hle
          have Key := hide hkey
          clear hx hkey
          have hxy : decide (y < x) = false := decide_eq_false (by omega)
          cases hth : hasInt (l.take k) y with
          | true =>
            have Hth := hide hth
            go_wp2
            go_roundw
            case rel => exact ⟨k + 1, by omega, by go_num, congrArg Value.bool (by rw [Key.out, Hth.out]; rfl), by first | rfl | trivial⟩
            case measure => simp [intOf]; omega
          | false =>
            have Hth := hide hth
            cases hfi : (x == y) with
            | true =>
              have Hfi := hide hfi
              go_wp2
              go_roundw
              case rel => exact ⟨k + 1, by omega, by go_num, congrArg Value.bool (by rw [Key.out, Hth.out, Hfi.out]; rfl), by first | rfl | trivial⟩
              case measure => simp [intOf]; omega
            | false =>
              have Hfi := hide hfi
              go_wp2
              go_roundw
              case rel => exact ⟨k + 1, by omega, by go_num, congrArg Value.bool (by rw [Key.out, Hth.out, Hfi.out]; rfl), by first | rfl | trivial⟩
              case measure => simp [intOf]; omega
        · obtain rfl : k = l.length := by omega
          have hall : hasInt (l.take l.length) y = true := by
            rw [List.take_length, hasInt]
            exact List.any_eq_true.2 ⟨y, Hmem.out, by simp⟩
          rw [hall]
          clear hall
          go_wp2_with (go_at_call 17; refine (known_walk _).mono ?_; rintro e w' ⟨rfl, hk⟩)
          go_ret
          exact ⟨rfl, Hb.out.trans (hk.mono Hb.out.size)⟩
end Go.Proofs.Yteealadflekffaa
