/- What TruthLeast, TruthMore, TruthOrder share: the script's guard, marks in maps, the book that the script makes; plain laws of what is held up. -/
import Derived.Test.YtmcajoccfbebiaaTr12
import Derived.Test.YtmcajoccfbebiaaTrKW
import Derived.Test.YtmcajoccfbebiaaArgs29
namespace Go.Proofs.Ytmcajoccfbebiaa
open Go Go.RowKit Go.MapKept Go.Sort

theorem held_iff {M : List Sp} {x : Int} : Held M x ↔ (getD M x).plain = true ∨ ∃ c ∈ (getD M x).js.map Jc.co, ∀ y ∈ c.2, Held M y := by
  constructor
  · intro h
    cases h with
    | plain h => exact .inl h
    | just hj hall => exact .inr ⟨_, List.mem_map.2 ⟨_, hj, rfl⟩, hall⟩
  · rintro (h | ⟨c, hc, h⟩)
    · exact .plain h
    · exact held_co (r := c.1) (t := c.2) hc h

/-- What two books say alike, they hold alike. -/
theorem held_congr {M M' : List Sp} (hp : ∀ x, (getD M x).plain = true → (getD M' x).plain = true) (hj : ∀ x, ∀ c ∈ (getD M x).js.map Jc.co, ∃ d ∈ (getD M' x).js.map Jc.co, d.2 = c.2) {x : Int} (h : Held M x) : Held M' x := by
  induction h with
  | plain h => exact .plain (hp _ h)
  | just hjm _hall ih =>
    obtain ⟨d, hd, e⟩ := hj _ _ (List.mem_map.2 ⟨_, hjm, rfl⟩)
    exact held_iff.2 (.inr ⟨d, hd, fun y hy => ih y (by rw [e] at hy; exact hy)⟩)

/-- Marks: the ints of a map whose values are all 1. -/
structure Marks (w : World) (g : Nat) (lin : List (Int × Value)) (S : Int → Bool) : Prop where
  map : IMap w g lin
  ones : ∀ p ∈ lin, p.2 = .int .i64 1
  set : ∀ x, inSet lin x = S x
theorem Marks.look {w : World} {g : Nat} {lin : List (Int × Value)} {S : Int → Bool} (h : Marks w g lin S) (x : Int) : (look lin x).getD (.int .i64 0) = .int .i64 (if S x then 1 else 0) := by
  rw [← h.set]
  unfold inSet
  cases e : Go.Proofs.Ytmcajoccfbebiaa.look lin x with
  | none => rfl
  | some v =>
    unfold Go.Proofs.Ytmcajoccfbebiaa.look at e
    obtain ⟨p, hp, hv⟩ := Option.map_eq_some_iff.1 e
    rw [h.ones p (List.mem_of_find?_eq_some hp)] at hv
    subst hv
    rfl
theorem Marks.below {w w' : World} {g : Nat} {lin : List (Int × Value)} {S : Int → Bool} (h : Marks w g lin S) (hb : Below w.heap.size w w') : Marks w' g lin S := ⟨h.map.only (Only.of_below hb []) (by simp), h.ones, h.set⟩
theorem put_ones {l : List (Int × Value)} (h : ∀ p ∈ l, p.2 = .int .i64 1) (k : Int) : ∀ p ∈ put l k (.int .i64 1), p.2 = .int .i64 1 := by
  induction l with
  | nil => simp [put]
  | cons q l ih =>
    unfold put
    intro p hp
    split at hp
    · rcases List.mem_cons.1 hp with rfl | hp
      · rfl
      · exact h p (.tail _ hp)
    · rcases List.mem_cons.1 hp with rfl | hp
      · exact h _ (.head _)
      · exact ih (fun p hp => h p (.tail _ hp)) p hp
theorem Marks.put {w w' : World} {g : Nat} {lin : List (Int × Value)} {S : Int → Bool} (h : Marks w g lin S) {k : Int} (hm : IMap w' g (put lin k (.int .i64 1))) : Marks w' g (Go.Proofs.Ytmcajoccfbebiaa.put lin k (.int .i64 1)) (fun x => S x || k == x) :=
  ⟨hm, put_ones h.ones k, fun x => by rw [inSet_put, h.set]⟩
theorem Marks.new (w : World) : Marks (w.alloc (.map #[] 0)) w.heap.size [] (fun _ => false) := ⟨IMap.new w, by simp, fun _ => rfl⟩
theorem Marks.congr {w : World} {g : Nat} {lin : List (Int × Value)} {S T : Int → Bool} (h : Marks w g lin S) (e : ∀ x, S x = T x) : Marks w g lin T := ⟨h.map, h.ones, fun x => (h.set x).trans (e x)⟩

/-- The book, as the script's first k calls made it. -/
structure Bk (w : World) (b m : Nat) (M : List Sp) (k : Nat) : Prop where
  book : BookIs w b m M
  len : M.length ≤ k
  js : ∀ id, (getD M id).js.length ≤ k
theorem Bk.below {w w' : World} {b m k : Nat} {M : List Sp} (h : Bk w b m M k) (hb : Below w.heap.size w w') : Bk w' b m M k := ⟨h.book.below hb, h.len, h.js⟩
theorem Bk.next {w : World} {b m k : Nat} {M : List Sp} (h : Bk w b m M k) : Bk w b m M (k + 1) := ⟨h.book, by have := h.len; omega, fun id => by have := h.js id; omega⟩
theorem Bk.put {w w' : World} {b m k : Nat} {M : List Sp} (h : Bk w b m M k) {q : Sp} (hB : BookIs w' b m (putS M q)) (hq : q.js.length ≤ k + 1) : Bk w' b m (putS M q) (k + 1) :=
  ⟨hB, by have := putS_length M q; have := h.len; omega, fun id => by
    rw [getD_put]
    split
    · exact hq
    · have := h.js id; omega⟩

/-- More than is looked at? -/
def greatO (l : List OpD) : Bool := l.any (fun d => decide (20 < d.j.n)) || decide (60 < l.length)
theorem greatO_false {l : List OpD} (h : greatO l = false) : l.length ≤ 60 ∧ ∀ d ∈ l, d.j.n ≤ 20 := by
  unfold greatO at h
  rw [Bool.or_eq_false_iff] at h
  refine ⟨by simpa using h.2, fun d hd => ?_⟩
  have := List.any_eq_false.1 h.1 d hd
  simpa using this

set_option maxHeartbeats 400000 in
theorem great_any (v : Value) (l : List OpD) (w : World) (h : OpsD w v l) :
    Calls Try.prog 24 #[v] w fun e w' => e = .returned (.bool (greatO l)) ∧ w = w' := by
  obtain ⟨va, vc, rfl⟩ := h.form
  have hlen := h.1
  have H := hide h
  clear h
  go_enter Try.func24, Try.ntmps24
  go_wp2
  go_loop [6] (fun vi => ∃ k : Nat, k ≤ l.length ∧ vi = .int .i64 k ∧ Hid (∀ j (h : j < l.length), j < k → ¬ 20 < l[j].j.n)) (fun vi => l.length - (intOf vi).toNat)
  case atStart => exact ⟨0, Nat.zero_le _, rfl, fun j h hj => absurd hj (by omega)⟩
  case round =>
    obtain ⟨k, hk, rfl, hq⟩ := hrel
    by_cases hlk : k < l.length
    · obtain ⟨g, off, cap, e, hat⟩ := H.out.at hlk
      injection e with e1 e2 e3
      subst e1 e3
      clear e2
      have c3 := hat.c3
      obtain ⟨D, hD⟩ : ∃ D, l[k] = D := ⟨_, rfl⟩
      rw [hD] at c3
      obtain ⟨dk, did, ⟨jr, ja, jn, jc, jt⟩⟩ := D
      simp only at c3
      have Hn : Hid (l[k].j.n = jn) := hide (by rw [hD])
      clear hat hD
      by_cases hn : 20 < jn
      · have hn2 : (20 : Int) < (jn : Int) := by omega
        have hg : greatO l = true := by
          unfold greatO
          rw [Bool.or_eq_true]
          exact .inl (List.any_eq_true.2 ⟨l[k], List.getElem_mem hlk, by rw [Hn.out]; simpa using hn⟩)
        have HG := hide hg
        clear hg hn
        go_wp2
        go_ret
        exact ⟨by rw [HG.out]; rfl, rfl⟩
      · have hn2 : (jn : Int) ≤ 20 := by omega
        have HN : Hid (¬ 20 < l[k].j.n) := hide (by rw [Hn.out]; exact hn)
        clear hn Hn
        go_wp2
        go_round
        case rel => exact ⟨k + 1, by omega, by go_num, fun j h hj => by
          rcases Nat.lt_or_ge j k with q | q
          · exact hq.out j h q
          · obtain rfl : j = k := by omega
            exact HN.out⟩
        case measure => simp [intOf]; omega
    · obtain rfl : k = l.length := by omega
      have hg : greatO l = decide ((60 : Int) < (l.length : Int)) := by
        unfold greatO
        have : l.any (fun d => decide (20 < d.j.n)) = false := List.any_eq_false.2 fun d hd => by
          obtain ⟨j, hj, rfl⟩ := List.getElem_of_mem hd
          simpa using hq.out j hj hj
        rw [this, Bool.false_or, decide_eq_decide]
        omega
      have HG := hide hg
      clear hg
      go_wp2
      go_ret
      exact ⟨by rw [HG.out]; rfl, rfl⟩
end Go.Proofs.Ytmcajoccfbebiaa
