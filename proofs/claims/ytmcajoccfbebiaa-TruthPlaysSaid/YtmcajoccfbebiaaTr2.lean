/- truth.same; IndexFunc, ContainsFunc over justifications and ints, whatever is asked; slices.Contains of ints. -/
import Derived.Test.YtmcajoccfbebiaaTr1
namespace Go.Proofs.Ytmcajoccfbebiaa
open Go Go.RowKit Go.MapKept Go.Sort

/-- One rule and tuple. -/
def Jc.same (a b : Jc) : Bool := decide (a.rule = b.rule ∧ a.tup = b.tup)

set_option maxHeartbeats 400000 in
theorem same_any (a b : Jc) (w : World) (ha : NIs w a.x a.tup) (hb : NIs w b.x b.tup) :
    Calls Try.prog 56 #[a.val, b.val] w fun e w' => e = .returned (.bool (a.same b)) ∧ Below w.heap.size w w' := by
  obtain ⟨ra, l, xa⟩ := a
  obtain ⟨rb, m, xb⟩ := b
  simp only at ha hb
  obtain ⟨xaa, xac, rfl⟩ := ha.form
  obtain ⟨xba, xbc, rfl⟩ := hb.form
  have o2 : Below w.heap.size w ((w.alloc (Obj.cells #[.int .i64 ra, .slice xaa l.length xac] 53)).alloc (Obj.cells #[.int .i64 rb, .slice xba m.length xbc] 53)) := (((Only.refl [] w).alloc _).alloc _).below
  have heq := nequal _ _ l m _ (ha.below o2) (hb.below o2)
  have Heq := hide heq
  have O2 := hide o2
  clear ha hb heq o2
  unfold Jc.val Jc.same
  by_cases hr : ra = rb
  · subst hr
    go_enter Try.func56, Try.ntmps56
    go_wp2_with fail
    refine Heq.out.mono ?_
    rintro e w' ⟨rfl, hb⟩
    have HB := hide (O2.out.trans (hb.mono O2.out.size))
    clear hb
    go_wp2
    go_ret
    exact ⟨by simp only [true_and]; rfl, HB.out⟩
  · have hrb : (ra == rb) = false := by simpa using hr
    have Hr := hide hr
    clear hr
    go_enter Try.func56, Try.ntmps56
    go_wp2
    go_ret
    exact ⟨by rw [decide_eq_false (fun h => Hr.out h.1)]; rfl, O2.out⟩

/-- What is asked of a justification, by a function value. -/
def AskJ (S : List Nat) (w : World) (fn : Nat) (caps : Array Value) (p : Jc → Bool) : Prop :=
  ∀ (j : Jc) (V : World), Only S w V → NIs V j.x j.tup → Calls Try.prog fn (#[j.val] ++ caps) V fun r V' => r = .returned (.bool (p j)) ∧ Below V.heap.size V V'
/-- What is asked of an int. -/
def AskI (S : List Nat) (w : World) (fn : Nat) (caps : Array Value) (p : Int → Bool) : Prop :=
  ∀ (z : Int) (V : World), Only S w V → Calls Try.prog fn (#[.int .i64 z] ++ caps) V fun r V' => r = .returned (.bool (p z)) ∧ Below V.heap.size V V'
/-- Where the first one stands that is asked for. -/
def idxJ {α : Type} (l : List α) (p : α → Bool) : Int := match l.findIdx? p with | some i => i | none => -1
theorem idxJ_at {α : Type} {l : List α} {p : α → Bool} {k : Nat} (hk : k < l.length) (h0 : ∀ j (h : j < l.length), j < k → p l[j] = false) (h1 : p l[k] = true) : idxJ l p = k := by
  unfold idxJ
  rw [(List.findIdx?_eq_some_iff_getElem (p := p) (i := k)).2 ⟨hk, h1, fun j hj => by simpa using h0 j (by omega) hj⟩]
theorem idxJ_none {α : Type} {l : List α} {p : α → Bool} (h0 : ∀ j (h : j < l.length), p l[j] = false) : idxJ l p = -1 := by
  unfold idxJ
  rw [List.findIdx?_eq_none_iff.2 (fun e he => by obtain ⟨j, hj, rfl⟩ := List.getElem_of_mem he; exact h0 j hj)]
theorem idxJ_any {α : Type} (l : List α) (p : α → Bool) : decide (0 ≤ idxJ l p) = l.any p := by
  unfold idxJ
  cases h : l.findIdx? p with
  | none =>
    rw [List.findIdx?_eq_none_iff] at h
    have : l.any p = false := List.any_eq_false.2 fun x hx => by simpa using h x hx
    rw [this]
    rfl
  | some i =>
    obtain ⟨hi, hp, _⟩ := List.findIdx?_eq_some_iff_getElem.1 h
    have : l.any p = true := List.any_eq_true.2 ⟨l[i], List.getElem_mem hi, hp⟩
    rw [this]
    exact decide_eq_true (by show (0 : Int) ≤ (i : Int); omega)

set_option maxHeartbeats 1000000 in
theorem indexJ_any (fn : Nat) (caps : Array Value) (p : Jc → Bool) (eg : ∀ args w, (callFunc fn args).run Try.prog w = .ok (.enter fn args) w) (v : Value) (l : List Jc) (w : World) (h : JsIs w v l) (ha : AskJ [] w fn caps p) :
    Calls Try.prog 85 #[v, .func (.func fn) #[] caps] w fun r w' => r = .returned (.int .i64 (idxJ l p)) ∧ Below w.heap.size w w' := by
  obtain ⟨va, vc, rfl⟩ := h.form
  have hlen := h.len
  have H := hide h
  have HA := hide ha
  clear h ha
  go_enter Try.func85, Try.ntmps85
  go_wp2
  go_loopw [8] (fun vi wr => ∃ k : Nat, k ≤ l.length ∧ vi = .int .i64 k ∧ Hid (∀ j (h : j < l.length), j < k → p l[j] = false) ∧ Hid (Below w.heap.size w wr)) (fun i _ => l.length - (intOf i).toNat)
  case atStart => exact ⟨0, Nat.zero_le _, rfl, fun j h hj => absurd hj (by omega), Below.refl _ _⟩
  case round =>
    obtain ⟨k, hk, rfl, hq, hb⟩ := hrel
    by_cases hlk : k < l.length
    · have hr := H.out.keeps (KeepsCells.below hb.out)
      obtain ⟨g, off, cap, xa, xc, e, hex, c0, c1⟩ := hr.at hlk
      injection e with e1 e2 e3
      subst e1 e3
      clear e2
      have hc := HA.out l[k] wr (Only.of_below hb.out _) (hr.tups _ (List.getElem_mem hlk))
      unfold Jc.val at hc
      rw [hex] at hc
      have Hc := hide hc
      obtain ⟨q, hp⟩ : ∃ q, p l[k] = q := ⟨_, rfl⟩
      rw [hp] at Hc
      have Hp := hide hp
      clear hr hc hp hex
      go_wp2_with fail
      refine Hc.out.mono ?_
      rintro r w2 ⟨rfl, hb2⟩
      have HB2 := hide (hb.out.trans (hb2.mono hb.out.size))
      clear hb2
      cases q
      · go_wp2
        go_roundw
        case rel => exact ⟨k + 1, by omega, by go_num, fun j h hj => by
          rcases Nat.lt_or_ge j k with q | q
          · exact hq.out j h q
          · obtain rfl : j = k := by omega
            exact Hp.out, HB2.out⟩
        case measure => simp [intOf]; omega
      · go_wp2
        go_ret
        exact ⟨by rw [idxJ_at hlk hq.out Hp.out]; rfl, HB2.out⟩
    · obtain rfl : k = l.length := by omega
      go_wp2
      go_ret
      exact ⟨by rw [idxJ_none (fun j h => hq.out j h h)]; rfl, hb.out⟩

theorem containsJ_any (fn : Nat) (caps : Array Value) (p : Jc → Bool) (eg : ∀ args w, (callFunc fn args).run Try.prog w = .ok (.enter fn args) w) (v : Value) (l : List Jc) (w : World) (h : JsIs w v l) (ha : AskJ [] w fn caps p) :
    Calls Try.prog 54 #[v, .func (.func fn) #[] caps] w fun r w' => r = .returned (.bool (l.any p)) ∧ Below w.heap.size w w' := by
  have Hi := hide (indexJ_any fn caps p eg v l w h ha)
  have He := hide (idxJ_any l p)
  clear h ha
  obtain ⟨i, hi⟩ : ∃ i, idxJ l p = i := ⟨_, rfl⟩
  rw [hi] at Hi He
  clear hi
  go_enter Try.func54, Try.ntmps54
  go_wp2_with fail
  (with_reducible refine Hi.out.mono ?_)
  rintro r V ⟨rfl, hb⟩
  have HB := hide hb
  clear hb
  go_wp2
  go_ret
  exact ⟨by rw [← He.out]; rfl, HB.out⟩

theorem nis_at {w : World} {v : Value} {l : List Int} (h : NIs w v l) {k : Nat} (hk : k < l.length) : ∃ b off cap, v = .slice (some ⟨b, off, none⟩) l.length cap ∧ w.cell? ⟨b, off + k, none⟩ = some (.int .i64 l[k]) := by
  obtain ⟨_, ⟨b, off, cap, e, hi⟩ | ⟨rfl, _⟩⟩ := h
  · exact ⟨b, off, cap, e, hi k hk⟩
  · simp at hk

set_option maxHeartbeats 1000000 in
theorem indexI_any (fn : Nat) (caps : Array Value) (p : Int → Bool) (eg : ∀ args w, (callFunc fn args).run Try.prog w = .ok (.enter fn args) w) (v : Value) (l : List Int) (w : World) (h : NIs w v l) (ha : AskI [] w fn caps p) :
    Calls Try.prog 87 #[v, .func (.func fn) #[] caps] w fun r w' => r = .returned (.int .i64 (idxJ l p)) ∧ Below w.heap.size w w' := by
  obtain ⟨va, vc, rfl⟩ := h.form
  have hlen := h.1
  have H := hide h
  have HA := hide ha
  clear h ha
  go_enter Try.func87, Try.ntmps87
  go_wp2
  go_loopw [8] (fun vi wr => ∃ k : Nat, k ≤ l.length ∧ vi = .int .i64 k ∧ Hid (∀ j (h : j < l.length), j < k → p l[j] = false) ∧ Hid (Below w.heap.size w wr)) (fun i _ => l.length - (intOf i).toNat)
  case atStart => exact ⟨0, Nat.zero_le _, rfl, fun j h hj => absurd hj (by omega), Below.refl _ _⟩
  case round =>
    obtain ⟨k, hk, rfl, hq, hb⟩ := hrel
    by_cases hlk : k < l.length
    · have hr := H.out.below hb.out
      obtain ⟨g, off, cap, e, c0⟩ := nis_at hr hlk
      injection e with e1 e2 e3
      subst e1 e3
      clear e2
      have hc := HA.out l[k] wr (Only.of_below hb.out _)
      obtain ⟨z, hz⟩ : ∃ z, l[k] = z := ⟨_, rfl⟩
      rw [hz] at hc c0
      have Hc := hide hc
      obtain ⟨q, hp⟩ : ∃ q, p z = q := ⟨_, rfl⟩
      rw [hp] at Hc
      have Hp : Hid (p l[k] = q) := hide (by rw [hz]; exact hp)
      clear hr hc hp hz
      go_wp2_with fail
      refine Hc.out.mono ?_
      rintro r w2 ⟨rfl, hb2⟩
      have HB2 := hide (hb.out.trans (hb2.mono hb.out.size))
      clear hb2
      cases q
      · go_wp2
        go_roundw
        case rel => exact ⟨k + 1, by omega, by go_num, fun j h hj => by
          rcases Nat.lt_or_ge j k with q | q
          · exact hq.out j h q
          · obtain rfl : j = k := by omega
            exact Hp.out, HB2.out⟩
        case measure => simp [intOf]; omega
      · go_wp2
        go_ret
        exact ⟨by rw [idxJ_at hlk hq.out Hp.out]; rfl, HB2.out⟩
    · obtain rfl : k = l.length := by omega
      go_wp2
      go_ret
      exact ⟨by rw [idxJ_none (fun j h => hq.out j h h)]; rfl, hb.out⟩

set_option maxHeartbeats 1000000 in
theorem index_int (v : Value) (l : List Int) (z : Int) (w : World) (h : NIs w v l) :
    Calls Try.prog 89 #[v, .int .i64 z] w fun r w' => r = .returned (.int .i64 (idxJ l fun x => z == x)) ∧ w = w' := by
  obtain ⟨va, vc, rfl⟩ := h.form
  have hlen := h.1
  have H := hide h
  clear h
  go_enter Try.func89, Try.ntmps89
  go_wp2
  go_loop [8] (fun vi => ∃ k : Nat, k ≤ l.length ∧ vi = .int .i64 k ∧ Hid (∀ j (h : j < l.length), j < k → (z == l[j]) = false)) (fun i => l.length - (intOf i).toNat)
  case atStart => exact ⟨0, Nat.zero_le _, rfl, fun j h hj => absurd hj (by omega)⟩
  case round =>
    obtain ⟨k, hk, rfl, hq⟩ := hrel
    by_cases hlk : k < l.length
    · obtain ⟨g, off, cap, e, c0⟩ := nis_at H.out hlk
      injection e with e1 e2 e3
      subst e1 e3
      clear e2
      obtain ⟨y, hy⟩ : ∃ y, l[k] = y := ⟨_, rfl⟩
      rw [hy] at c0
      have Hy := hide hy
      clear hy
      by_cases hzy : z = y
      · have h1 : (z == y) = true := by simpa using hzy
        have Hz := hide hzy
        clear hzy
        go_wp2
        go_ret
        exact ⟨by rw [idxJ_at hlk hq.out (by rw [Hy.out]; exact h1)]; rfl, rfl⟩
      · have h1 : (z == y) = false := by simpa using hzy
        have Hz := hide hzy
        clear hzy
        go_wp2
        go_round
        case rel => exact ⟨k + 1, by omega, by go_num, fun j h hj => by
          rcases Nat.lt_or_ge j k with q | q
          · exact hq.out j h q
          · obtain rfl : j = k := by omega
            rw [Hy.out]; exact h1⟩
        case measure => simp [intOf]; omega
    · obtain rfl : k = l.length := by omega
      go_wp2
      go_ret
      exact ⟨by rw [idxJ_none (fun j h => hq.out j h h)]; rfl, rfl⟩

theorem contains_int (v : Value) (l : List Int) (z : Int) (w : World) (h : NIs w v l) :
    Calls Try.prog 62 #[v, .int .i64 z] w fun r w' => r = .returned (.bool (l.any fun x => z == x)) ∧ w = w' := by
  have Hi := hide (index_int v l z w h)
  have He := hide (idxJ_any l fun x => z == x)
  clear h
  obtain ⟨i, hi⟩ : ∃ i, (idxJ l fun x => z == x) = i := ⟨_, rfl⟩
  rw [hi] at Hi He
  clear hi
  go_enter Try.func62, Try.ntmps62
  go_wp2_with fail
  (with_reducible refine Hi.out.mono ?_)
  rintro r V ⟨rfl, rfl⟩
  go_wp2
  go_ret
  exact ⟨by rw [← He.out]; rfl, rfl⟩
end Go.Proofs.Ytmcajoccfbebiaa
