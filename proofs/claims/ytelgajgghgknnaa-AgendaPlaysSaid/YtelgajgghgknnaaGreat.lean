/- The contracts of witanref26.Great and order.Same. -/
import Derived.Test.YtelgajgghgknnaaCompare
namespace Go.Proofs.Ytelgajgghgknnaa
open Go Go.RowKit Go.MapKept Go.Sort Go.Shelf

/-- One of the tuples has more than 20 ids, or there are too many. -/
def great (ns : List Nat) (most : Int) : Bool := ns.any (fun n => decide (20 < n)) || decide (most < ns.length)

theorem great_any (b off cap : Nat) (ns : List (Option Addr × Nat × Nat)) (most : Int) (w : World) (hlen : ns.length ≤ 9223372036854775807)
    (hc : ∀ i (h : i < ns.length), w.cell? ⟨b, off + i * 3 + 1, none⟩ = some (.slice ns[i].1 ns[i].2.1 ns[i].2.2)) :
    Calls Try.prog 8 #[.slice (some ⟨b, off, none⟩) ns.length cap, .int .i64 most] w fun e w' => e = .returned (.bool (great (ns.map (·.2.1)) most)) ∧ w' = w := by
  have Hc := hide hc
  clear hc
  go_enter Try.func8, Try.ntmps8
  go_wp2_with fail
  go_loopw [5] (fun i wr => ∃ k : Nat, k ≤ ns.length ∧ i = .int .i64 k ∧ Hid (∀ j (h : j < ns.length), j < k → ¬ 20 < ns[j].2.1) ∧ wr = w) (fun i _ => ns.length - (intOf i).toNat)
  case atStart => exact ⟨0, Nat.zero_le _, rfl, fun j h hj => absurd hj (by omega), rfl⟩
  case round =>
    obtain ⟨k, hk, rfl, hq, rfl⟩ := hrel
    by_cases hlt : k < ns.length
    · have c0 := Hc.out k hlt
      obtain ⟨p, hp⟩ : ∃ p, ns[k] = p := ⟨_, rfl⟩
      obtain ⟨a, n, c⟩ := p
      rw [hp] at c0
      simp only at c0
      have Hp := hide hp
      clear hp
      by_cases hn : (20 : Int) < (n : Int)
      · go_wp2
        go_ret
        refine ⟨?_, rfl⟩
        have : great (ns.map (·.2.1)) most = true := by
          unfold great
          rw [Bool.or_eq_true]
          refine .inl (List.any_eq_true.2 ⟨n, List.mem_map.2 ⟨ns[k], List.getElem_mem hlt, by rw [Hp.out]⟩, by simp; omega⟩)
        rw [this]
        rfl
      · go_wp2
        go_roundw
        case rel => exact ⟨k + 1, by omega, by go_num, fun j h hj => by
          rcases Nat.lt_or_ge j k with q | q
          · exact hq.out j h q
          · obtain rfl : j = k := by omega
            rw [Hp.out]
            simp only
            omega, trivial⟩
        case measure => simp [intOf]; omega
    · obtain rfl : k = ns.length := by omega
      have hres : great (ns.map (·.2.1)) most = decide (most < (ns.length : Int)) := by
        unfold great
        have : (ns.map (·.2.1)).any (fun n => decide (20 < n)) = false := by
          rw [List.any_eq_false]
          intro n hn
          obtain ⟨p, hp, rfl⟩ := List.mem_map.1 hn
          obtain ⟨j, hj, rfl⟩ := List.getElem_of_mem hp
          simpa using hq.out j hj hj
        rw [this]
        simp
      go_wp2
      go_ret
      exact ⟨by rw [hres]; rfl, rfl⟩

theorem nequal (x y : Value) (l m : List Int) (w : World) (hx : NIs w x l) (hy : NIs w y m) :
    Calls Try.prog 64 #[x, y] w fun e w' => e = .returned (.bool (decide (l = m))) ∧ Below w.heap.size w w' := by
  have hlx := hx.1
  have hly := hy.1
  by_cases hn : l.length = m.length
  · by_cases h0 : l.length = 0
    · obtain ⟨xa, xc, rfl⟩ := hx.form
      obtain ⟨ya, yc, rfl⟩ := hy.form
      obtain rfl : l = [] := List.eq_nil_of_length_eq_zero h0
      obtain rfl : m = [] := List.eq_nil_of_length_eq_zero (by omega)
      refine (Try.slices_Equal_int_empty xa ya xc 0 yc w (by omega)).mono ?_
      rintro e w' ⟨rfl, rfl⟩
      exact ⟨by simp, Below.refl _ _⟩
    · rcases hx.2 with ⟨b, off, cap, rfl, hi⟩ | ⟨rfl, _⟩
      · rcases hy.2 with ⟨b', off', cap', rfl, hj⟩ | ⟨rfl, _⟩
        · refine (Try.slices_Equal_int b off l.length cap b' off' m.length cap' l m w (Nat.le_refl _) (Nat.le_refl _) (by omega) (by omega) (fun j h => ?_) (fun j h => ?_)).mono ?_
          · rw [hi j h, List.getD_eq_getElem?_getD, List.getElem?_eq_getElem h]
            rfl
          · rw [hj j h, List.getD_eq_getElem?_getD, List.getElem?_eq_getElem h]
            rfl
          · rintro e w' ⟨rfl, q, rfl⟩
            refine ⟨?_, below_drewN (Below.refl _ _) q⟩
            rw [List.take_length, List.take_length]
            congr 2
            rw [Bool.eq_iff_iff]
            simp
        · exact absurd hn (by simpa using h0)
      · exact absurd rfl h0
  · obtain ⟨xa, xc, rfl⟩ := hx.form
    obtain ⟨ya, yc, rfl⟩ := hy.form
    refine (Try.slices_Equal_int_lens xa ya l.length xc m.length yc w hn).mono ?_
    rintro e w' ⟨rfl, rfl⟩
    exact ⟨by rw [decide_eq_false (fun h => hn (congrArg List.length h))], Below.refl _ _⟩

theorem same_act (a b : Ac) (w : World) (ha : NIs w a.x a.tup) (hb : NIs w b.x b.tup) :
    Calls Try.prog 52 #[a.val, b.val] w fun e w' => e = .returned (.bool (decide (a.rule = b.rule ∧ a.tup = b.tup))) ∧ Below w.heap.size w w' := by
  obtain ⟨ra, l, sa, xa⟩ := a
  obtain ⟨rb, m, sb, xb⟩ := b
  simp only at ha hb
  obtain ⟨xaa, xac, rfl⟩ := ha.form
  obtain ⟨xba, xbc, rfl⟩ := hb.form
  have o2 : Below w.heap.size w ((w.alloc (Obj.cells #[.int .i64 ra, .slice xaa l.length xac, .int .i64 sa] 27)).alloc (Obj.cells #[.int .i64 rb, .slice xba m.length xbc, .int .i64 sb] 27)) := (((Only.refl [] w).alloc _).alloc _).below
  have heq := nequal _ _ l m _ (ha.below o2) (hb.below o2)
  have Heq := hide heq
  have O2 := hide o2
  clear ha hb heq o2
  unfold Ac.val
  by_cases hr : ra = rb
  · subst hr
    go_enter Try.func52, Try.ntmps52
    go_wp2_with fail
    refine Heq.out.mono ?_
    rintro e w' ⟨rfl, hb⟩
    have HB := hide (O2.out.trans (hb.mono O2.out.size))
    clear hb
    go_wp2
    go_ret
    exact ⟨by simp only [true_and]; rfl, HB.out⟩
  · have hrb : (ra == rb) = false := by simpa using hr
    have Hr := hide hr
    clear hr
    go_enter Try.func52, Try.ntmps52
    go_wp2
    go_ret
    exact ⟨by rw [decide_eq_false (fun h => Hr.out h.1)]; rfl, O2.out⟩
end Go.Proofs.Ytelgajgghgknnaa
