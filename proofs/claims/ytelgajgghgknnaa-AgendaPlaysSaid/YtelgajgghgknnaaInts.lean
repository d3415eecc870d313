/- Slices of int: what such a slice reads as (NIs), and the contracts of slices.Clone, slices.Compare, slices.Equal on them, and of order.Vector. -/
import Derived.Test.YtelgajgghgknnaaChecked
import Derived.Test.YtelgajgghgknnaaBase
import Derived.Test.YtelgajgghgknnaaShelf
import Derived.Lib.SlKeysI
import Derived.BigQuiet
import Derived.Deep.QuietTactic
namespace Go.Proofs.Ytelgajgghgknnaa
open Go Go.RowKit Go.MapKept Go.Sort Go.Shelf

/-- The slice x of ints reads as l. -/
def NIs (w : World) (x : Value) (l : List Int) : Prop :=
  l.length ≤ 1000000 ∧ ((∃ b off cap, x = .slice (some ⟨b, off, none⟩) l.length cap ∧ ∀ i (h : i < l.length), w.cell? ⟨b, off + i, none⟩ = some (.int .i64 l[i])) ∨ (l = [] ∧ (x = .slice none 0 0 ∨ ∃ a cap, x = .slice (some a) 0 cap)))

/-- x is a slice of new memory: from block B on. -/
def NNew (B : Nat) (x : Value) : Prop := ∀ a n c, x = .slice (some a) n c → n ≠ 0 → B ≤ a.block

theorem NIs.form {w : World} {x : Value} {l : List Int} (h : NIs w x l) : ∃ a c, x = .slice a l.length c := by
  obtain ⟨_, ⟨b, off, cap, rfl, _⟩ | ⟨rfl, rfl | ⟨a, cap, rfl⟩⟩⟩ := h <;> exact ⟨_, _, rfl⟩

theorem NIs.below {w w' : World} {x : Value} {l : List Int} (h : NIs w x l) (hb : Below w.heap.size w w') : NIs w' x l := by
  obtain ⟨hl, ⟨b, off, cap, rfl, hi⟩ | h⟩ := h
  · exact ⟨hl, .inl ⟨b, off, cap, rfl, fun i hil => (hb.cell (p := ⟨b, off + i, none⟩) (lt_of_cell (hi i hil))).trans (hi i hil)⟩⟩
  · exact ⟨hl, .inr h⟩

theorem NIs.of_row {w : World} {B : Nat} {v : Value} {l : List Int} (hl : l.length ≤ 1000000) (h : w.ownsRow B 3 1 v l.length (l.map (.int .i64))) : NIs w v l := by
  refine ⟨hl, ?_⟩
  rcases h.2 with ⟨rfl, hn⟩ | ⟨g, cap, cur, rfl, _, hg, _⟩
  · exact .inr ⟨List.eq_nil_of_length_eq_zero hn, .inl rfl⟩
  · refine .inl ⟨g, 0, cap, rfl, fun i hi => ?_⟩
    have := h.cells (g := g) rfl i (.int .i64 l[i]) (by simp [hi])
    simpa only [Addr.add_lit, Nat.zero_add] using this

theorem NNew.of_row {w : World} {B n : Nat} {v : Value} {xs : List Value} (h : w.ownsRow B 3 1 v n xs) : NNew B v := by
  intro a m c e hm
  rcases h.2 with ⟨rfl, hn⟩ | ⟨g, cap, cur, rfl, hb, hg, _⟩
  · cases e
  · cases e
    exact hb

/-- Falling. -/
def falls (l : List Int) : List Int := (l.mergeSort fun x y => decide (x ≤ y)).reverse
theorem falls_length (l : List Int) : (falls l).length = l.length := by simp [falls]

/-- The vector of a tuple. -/
def vec (s : Int) (l : List Int) : List Int := if s = 3 then falls l else match falls l with | [] => [0] | x :: _ => [x]

theorem nclone (x : Value) (l : List Int) (w : World) (h : NIs w x l) :
    Calls Try.prog 47 #[x] w fun e w' => ∃ v, e = .returned v ∧ w'.ownsRow w.heap.size 3 1 v l.length (l.map (.int .i64)) ∧ Below w.heap.size w w' := by
  obtain ⟨hl, ⟨b, off, cap, rfl, hi⟩ | ⟨rfl, rfl | ⟨a, cap, rfl⟩⟩⟩ := h
  · refine (Try.slices_Clone_int b off l.length cap l w (Nat.le_refl _) (by omega) (fun j hj => ?_)).mono ?_
    · rw [hi j hj, List.getD_eq_getElem?_getD, List.getElem?_eq_getElem hj]
      rfl
    · rintro e w' ⟨v, rfl, hr, _, hb⟩
      rw [List.take_length] at hr
      exact ⟨v, rfl, hr, hb⟩
  · refine (Try.slices_Clone_int_nil 0 0 w).mono ?_
    rintro e w' ⟨rfl, rfl⟩
    exact ⟨_, rfl, World.ownsRow_nil _ _ _ _, Below.refl _ _⟩
  · refine (Try.slices_Clone_int_zero a cap w).mono ?_
    rintro e w' ⟨v, rfl, hr, _, hb⟩
    exact ⟨v, rfl, hr, hb⟩

/-- slices.Sort, slices.Reverse on a row of one's own. -/
theorem nsort (B : Nat) (v : Value) (l : List Int) (w : World) (hl : l.length ≤ 1000000) (h : w.ownsRow B 3 1 v l.length (l.map (.int .i64))) :
    Calls Try.prog 65 #[v] w fun e w' => e = .returned (.tuple #[]) ∧ w'.ownsRow B 3 1 v l.length ((l.mergeSort fun x y => decide (x ≤ y)).map (.int .i64)) ∧ w.grownBy w' v.ownBlock := by
  rcases h.2 with ⟨rfl, hz⟩ | ⟨g, cap, cur, rfl, hbase, hgb, r1, r2, r3, r4⟩
  · obtain rfl : l = [] := List.eq_nil_of_length_eq_zero hz
    refine (Try.slices_Sort_int_none none 0 w).mono ?_
    rintro e w' ⟨rfl, rfl⟩
    exact ⟨rfl, by simpa using h, World.grownBy.refl _ _⟩
  · have hH : Holds (Value.int .i64) w g 0 l.toArray := holds_of_block_i hgb (by simpa using r4)
    have hgl : g < w.heap.size := lt_of_heap hgb
    refine (Try.slices_Sort_int g 0 cap l w hH hgl (by omega)).mono ?_
    rintro e w' ⟨rfl, n, os, rfl⟩
    exact ⟨rfl, ownsRow_sorted_i (by simp) hbase hgb r1 r2 r3, grownBy_sorted_i _⟩

theorem nreverse (B : Nat) (v : Value) (l : List Int) (w : World) (hl : l.length ≤ 1000000) (h : w.ownsRow B 3 1 v l.length (l.map (.int .i64))) :
    Calls Try.prog 66 #[v] w fun e w' => e = .returned (.tuple #[]) ∧ w'.ownsRow B 3 1 v l.length (l.reverse.map (.int .i64)) ∧ w.grownBy w' v.ownBlock := by
  rcases h.2 with ⟨rfl, hz⟩ | ⟨g, cap, cur, rfl, hbase, hgb, r1, r2, r3, r4⟩
  · obtain rfl : l = [] := List.eq_nil_of_length_eq_zero hz
    refine (Try.slices_Reverse_int_empty none 0 w).mono ?_
    rintro e w' ⟨rfl, rfl⟩
    exact ⟨rfl, by simpa using h, World.grownBy.refl _ _⟩
  · have hH : Holds (Value.int .i64) w g 0 l.toArray := holds_of_block_i hgb (by simpa using r4)
    refine (Try.slices_Reverse_int g 0 cap l w hH (by omega)).mono ?_
    rintro e w' ⟨rfl, n, rfl⟩
    have h1 := ownsRow_sorted_i (n := n) (os := #[]) (ss := l) (ts := l.reverse) (by simp) hbase hgb r1 r2 r3
    have h2 := grownBy_sorted_i (w := w) (g := g) (n := n) (os := #[]) l.reverse.toArray
    rw [grow_empty] at h1 h2
    exact ⟨rfl, h1, h2⟩

theorem row_own {w : World} {B n sz : Nat} {e : TypeId} {v : Value} {xs : List Value} (h : w.ownsRow B e sz v n xs) : ∀ k, v.ownBlock = some k → B ≤ k := by
  intro k hk
  rcases h.2 with ⟨rfl, _⟩ | ⟨g, cap, cur, rfl, hb, _⟩
  · simp [Value.ownBlock] at hk
  · simp only [Value.ownBlock, Option.some.injEq] at hk
    omega

theorem cell1 {w : World} {b : Nat} {x : Value} {t : TypeId} (h : w.heap[b]? = some (.cells #[x] t (0, 0))) : w.cell? ⟨b, 0, none⟩ = some x := by simp [World.cell?, h]

theorem vec_length (s : Int) (l : List Int) (h : l.length ≤ 1000000) : (vec s l).length ≤ 1000000 := by
  unfold vec
  split
  · rw [falls_length]; exact h
  · split <;> simp

/-- order.Vector. -/
theorem vector_any (s : Int) (x : Value) (l : List Int) (w : World) (h : NIs w x l) :
    Calls Try.prog 55 #[.int .u8 s, x] w fun e w' => ∃ v, e = .returned v ∧ NIs w' v (vec s l) ∧ NNew w.heap.size v ∧ Below w.heap.size w w' := by
  have hl := h.1
  obtain ⟨xa, xc, rfl⟩ := h.form
  have Hclone := hide (nclone _ l w h)
  clear h
  go_enter Try.func55, Try.ntmps55
  go_wp2_with fail
  refine Hclone.out.mono ?_
  rintro e w1 ⟨v, rfl, hr1, hb1⟩
  obtain ⟨va, vc, rfl⟩ : ∃ a c, v = .slice a l.length c := by
    rcases hr1.2 with ⟨rfl, hz⟩ | ⟨g, cap, cur, rfl, _⟩
    · exact ⟨none, 0, by rw [hz]⟩
    · exact ⟨_, _, rfl⟩
  have hown := row_own hr1
  have Hsort := hide (nsort _ _ l w1 hl hr1)
  have Hb1 := hide hb1
  have Hown := hide hown
  clear hr1 hb1 hown Hclone
  go_wp2_with fail
  refine Hsort.out.mono ?_
  rintro e w2 ⟨rfl, hr2, hg2⟩
  have hb2 := Hb1.out.grown hg2 Hb1.out.size Hown.out
  have Hrev := hide (nreverse _ _ (l.mergeSort fun x y => decide (x ≤ y)) w2 (by simpa using hl) (by simpa using hr2))
  have Hb2 := hide hb2
  clear hr2 hg2 hb2 Hsort Hb1
  go_wp2_with fail
  refine Hrev.out.mono ?_
  rintro e w3 ⟨rfl, hr3, hg3⟩
  have Hb3 := hide (Hb2.out.grown hg3 Hb2.out.size Hown.out)
  have hr3' : w3.ownsRow w.heap.size 3 1 (.slice va l.length vc) (falls l).length ((falls l).map (.int .i64)) := by simpa [falls] using hr3
  have hnis := hide (NIs.of_row (by rw [falls_length]; exact hl) hr3')
  have hnew := hide (NNew.of_row hr3')
  have Hr3 := hide hr3'
  clear hr3 hg3 hr3' Hrev Hb2 Hown
  by_cases hs : s = 3
  · have hsb : (s == 3) = true := by simpa using hs
    have Hs := hide hs
    clear hs
    go_wp2
    go_ret
    exact ⟨_, rfl, by rw [vec, if_pos Hs.out]; exact hnis.out, hnew.out, Hb3.out⟩
  · have hsb : (s == 3) = false := by simpa using hs
    have Hs := hide hs
    clear hs
    by_cases hz : l.length = 0
    · have hzb : ((l.length : Int) == 0) = true := by simpa using hz
      have Hz := hide hz
      clear hz
      go_wp2
      go_ret
      refine ⟨_, rfl, ?_, ?_, Hb3.out.alloc Hb3.out.size _⟩
      · have h0 : falls l = [] := List.eq_nil_of_length_eq_zero (by rw [falls_length]; exact Hz.out)
        rw [vec, if_neg Hs.out, h0]
        refine ⟨by simp, .inl ⟨w3.heap.size, 0, 1, rfl, fun i hi => ?_⟩⟩
        obtain rfl : i = 0 := by simpa using hi
        have := (MapKept.heap_alloc w3 (Obj.cells #[.int .i64 0] 3)).1
        exact (cell1 this)
      · intro a n c e hn
        cases e
        exact Hb3.out.size
    · have hzb : ((l.length : Int) == 0) = false := by rw [beq_eq_false_iff_ne]; omega
      rcases Hr3.out.2 with ⟨e, hn⟩ | ⟨g, cap, cur, e, hbase, hgb, r1, r2, r3, r4⟩
      · rw [falls_length] at hn; exact absurd hn hz
      rw [falls_length] at e r1
      injection e with e1 e2 e3
      subst e1 e3
      clear e2
      have hc1 : (1 : Int) ≤ (vc : Int) := by omega
      have hc2 : 1 ≤ vc := by omega
      have Hz := hide hz
      clear hz hgb r3 r4
      unfold maxLen at r2
      go_wp2
      go_ret
      refine ⟨_, rfl, ?_, fun a n c e hn => ?_, Hb3.out⟩
      · rw [vec, if_neg Hs.out]
        cases hf : falls l with
        | nil => have := congrArg List.length hf; rw [falls_length] at this; exact absurd this Hz.out
        | cons y r =>
          refine ⟨by simp, .inl ⟨g, 0, vc, rfl, fun i hi => ?_⟩⟩
          obtain rfl : i = 0 := by simpa using hi
          have := Hr3.out.cells (g := g) rfl 0 (.int .i64 y) (by simp [hf])
          simp only [Addr.add_lit, Nat.zero_add] at this
          exact this
      · cases e
        exact hbase
end Go.Proofs.Ytelgajgghgknnaa
