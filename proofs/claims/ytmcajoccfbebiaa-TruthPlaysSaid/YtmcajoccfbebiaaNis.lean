/- What a slice of int reads as; slices.Clone, Sort, Reverse, Equal of such; facts on worlds. -/
import Derived.Test.YtmcajoccfbebiaaChecked
import Derived.Test.YtmcajoccfbebiaaBase
import Derived.Test.YtmcajoccfbebiaaShelf
import Derived.Lib.SlKeysI
import Derived.BigQuiet
import Derived.Deep.QuietTactic
namespace Go.Proofs.Ytmcajoccfbebiaa
open Go Go.RowKit Go.MapKept Go.Sort Go.Shelf

/-- The slice x of ints reads as l. -/
def NIs (w : World) (x : Value) (l : List Int) : Prop :=
  l.length ≤ 1000000 ∧ ((∃ b off cap, x = .slice (some ⟨b, off, none⟩) l.length cap ∧ ∀ i (h : i < l.length), w.cell? ⟨b, off + i, none⟩ = some (.int .i64 l[i])) ∨ (l = [] ∧ (x = .slice none 0 0 ∨ ∃ a cap, x = .slice (some a) 0 cap)))

/-- x is a slice of new memory: from block B on. -/
def NNew (B : Nat) (x : Value) : Prop := ∀ a n c, x = .slice (some a) n c → n ≠ 0 → B ≤ a.block

theorem NIs.form {w : World} {x : Value} {l : List Int} (h : NIs w x l) : ∃ a c, x = .slice a l.length c := by
  obtain ⟨_, ⟨b, off, cap, rfl, _⟩ | ⟨rfl, rfl | ⟨a, cap, rfl⟩⟩⟩ := h <;> exact ⟨_, _, rfl⟩

theorem NIs.below {w w' : World} {x : Value} {l : List Int} (h : NIs w x l) (hb : Below w.heap.size w w') : NIs w' x l := by
  obtain ⟨hl, ⟨b, off, cap, rfl, hi⟩ | h⟩ := h
  · exact ⟨hl, .inl ⟨b, off, cap, rfl, fun i hil => (hb.cell (p := ⟨b, off + i, none⟩) (lt_of_cell (hi i hil))).trans (hi i hil)⟩⟩
  · exact ⟨hl, .inr h⟩

theorem NIs.of_row {w : World} {B : Nat} {v : Value} {l : List Int} (hl : l.length ≤ 1000000) (h : w.ownsRow B 3 1 v l.length (l.map (.int .i64))) : NIs w v l := by
  refine ⟨hl, ?_⟩
  rcases h.2 with ⟨rfl, hn⟩ | ⟨g, cap, cur, rfl, _, hg, _⟩
  · exact .inr ⟨List.eq_nil_of_length_eq_zero hn, .inl rfl⟩
  · refine .inl ⟨g, 0, cap, rfl, fun i hi => ?_⟩
    have := h.cells (g := g) rfl i (.int .i64 l[i]) (by simp [hi])
    simpa only [Addr.add_lit, Nat.zero_add] using this

theorem NNew.of_row {w : World} {B n : Nat} {v : Value} {xs : List Value} (h : w.ownsRow B 3 1 v n xs) : NNew B v := by
  intro a m c e hm
  rcases h.2 with ⟨rfl, hn⟩ | ⟨g, cap, cur, rfl, hb, hg, _⟩
  · cases e
  · cases e
    exact hb

/-- Falling. -/
def falls (l : List Int) : List Int := (l.mergeSort fun x y => decide (x ≤ y)).reverse
theorem falls_length (l : List Int) : (falls l).length = l.length := by simp [falls]


theorem nclone (x : Value) (l : List Int) (w : World) (h : NIs w x l) :
    Calls Try.prog 57 #[x] w fun e w' => ∃ v, e = .returned v ∧ w'.ownsRow w.heap.size 3 1 v l.length (l.map (.int .i64)) ∧ Below w.heap.size w w' := by
  obtain ⟨hl, ⟨b, off, cap, rfl, hi⟩ | ⟨rfl, rfl | ⟨a, cap, rfl⟩⟩⟩ := h
  · refine (Try.slices_Clone_int b off l.length cap l w (Nat.le_refl _) (by omega) (fun j hj => ?_)).mono ?_
    · rw [hi j hj, List.getD_eq_getElem?_getD, List.getElem?_eq_getElem hj]
      rfl
    · rintro e w' ⟨v, rfl, hr, _, hb⟩
      rw [List.take_length] at hr
      exact ⟨v, rfl, hr, hb⟩
  · refine (Try.slices_Clone_int_nil 0 0 w).mono ?_
    rintro e w' ⟨rfl, rfl⟩
    exact ⟨_, rfl, World.ownsRow_nil _ _ _ _, Below.refl _ _⟩
  · refine (Try.slices_Clone_int_zero a cap w).mono ?_
    rintro e w' ⟨v, rfl, hr, _, hb⟩
    exact ⟨v, rfl, hr, hb⟩

/-- slices.Sort, slices.Reverse on a row of one's own. -/
theorem nsort (B : Nat) (v : Value) (l : List Int) (w : World) (hl : l.length ≤ 1000000) (h : w.ownsRow B 3 1 v l.length (l.map (.int .i64))) :
    Calls Try.prog 91 #[v] w fun e w' => e = .returned (.tuple #[]) ∧ w'.ownsRow B 3 1 v l.length ((l.mergeSort fun x y => decide (x ≤ y)).map (.int .i64)) ∧ w.grownBy w' v.ownBlock := by
  rcases h.2 with ⟨rfl, hz⟩ | ⟨g, cap, cur, rfl, hbase, hgb, r1, r2, r3, r4⟩
  · obtain rfl : l = [] := List.eq_nil_of_length_eq_zero hz
    refine (Try.slices_Sort_int_none none 0 w).mono ?_
    rintro e w' ⟨rfl, rfl⟩
    exact ⟨rfl, by simpa using h, World.grownBy.refl _ _⟩
  · have hH : Holds (Value.int .i64) w g 0 l.toArray := holds_of_block_i hgb (by simpa using r4)
    have hgl : g < w.heap.size := lt_of_heap hgb
    refine (Try.slices_Sort_int g 0 cap l w hH hgl (by omega)).mono ?_
    rintro e w' ⟨rfl, n, os, rfl⟩
    exact ⟨rfl, ownsRow_sorted_i (by simp) hbase hgb r1 r2 r3, grownBy_sorted_i _⟩

theorem nreverse (B : Nat) (v : Value) (l : List Int) (w : World) (hl : l.length ≤ 1000000) (h : w.ownsRow B 3 1 v l.length (l.map (.int .i64))) :
    Calls Try.prog 51 #[v] w fun e w' => e = .returned (.tuple #[]) ∧ w'.ownsRow B 3 1 v l.length (l.reverse.map (.int .i64)) ∧ w.grownBy w' v.ownBlock := by
  rcases h.2 with ⟨rfl, hz⟩ | ⟨g, cap, cur, rfl, hbase, hgb, r1, r2, r3, r4⟩
  · obtain rfl : l = [] := List.eq_nil_of_length_eq_zero hz
    refine (Try.slices_Reverse_int_empty none 0 w).mono ?_
    rintro e w' ⟨rfl, rfl⟩
    exact ⟨rfl, by simpa using h, World.grownBy.refl _ _⟩
  · have hH : Holds (Value.int .i64) w g 0 l.toArray := holds_of_block_i hgb (by simpa using r4)
    refine (Try.slices_Reverse_int g 0 cap l w hH (by omega)).mono ?_
    rintro e w' ⟨rfl, n, rfl⟩
    have h1 := ownsRow_sorted_i (n := n) (os := #[]) (ss := l) (ts := l.reverse) (by simp) hbase hgb r1 r2 r3
    have h2 := grownBy_sorted_i (w := w) (g := g) (n := n) (os := #[]) l.reverse.toArray
    rw [grow_empty] at h1 h2
    exact ⟨rfl, h1, h2⟩

theorem row_own {w : World} {B n sz : Nat} {e : TypeId} {v : Value} {xs : List Value} (h : w.ownsRow B e sz v n xs) : ∀ k, v.ownBlock = some k → B ≤ k := by
  intro k hk
  rcases h.2 with ⟨rfl, _⟩ | ⟨g, cap, cur, rfl, hb, _⟩
  · simp [Value.ownBlock] at hk
  · simp only [Value.ownBlock, Option.some.injEq] at hk
    omega

theorem cell1 {w : World} {b : Nat} {x : Value} {t : TypeId} (h : w.heap[b]? = some (.cells #[x] t (0, 0))) : w.cell? ⟨b, 0, none⟩ = some x := by simp [World.cell?, h]
theorem owns_below {W w2 : World} {base : Nat} {e : TypeId} {size : Nat} {v : Value} {n : Nat} {xs : List Value} (h : W.ownsRow base e size v n xs) (hb : Below W.heap.size W w2) : w2.ownsRow base e size v n xs :=
  h.kept (row := none) ⟨hb.os, hb.tape, hb.output, hb.size, fun i hi _ => hb.block i hi⟩ (by cases v.ownBlock <;> simp)
theorem owns_only {W w2 : World} {base : Nat} {e : TypeId} {size : Nat} {v : Value} {n : Nat} {xs : List Value} {S : List Nat} (h : W.ownsRow base e size v n xs) (hb : Only S W w2) (hn : ∀ k, v.ownBlock = some k → k ∉ S) : w2.ownsRow base e size v n xs := by
  refine ⟨h.1, ?_⟩
  rcases h.2 with q | ⟨g, cap, cur, rfl, hb1, hg, r⟩
  · exact .inl q
  · exact .inr ⟨g, cap, cur, rfl, hb1, (hb.block g (lt_of_heap hg) (hn g rfl)).trans hg, r⟩
theorem owns_ne {w : World} {B B' n m s s' : Nat} {t t' : TypeId} {v v' : Value} {xs ys : List Value} (ht : t ≠ t') (h : w.ownsRow B t s v n xs) (h' : w.ownsRow B' t' s' v' m ys) {k : Nat} (hk : v.ownBlock = some k) : v'.ownBlock ≠ some k := by
  intro hk'
  rcases h.2 with ⟨rfl, _⟩ | ⟨g, cap, cur, rfl, _, hg, _⟩
  · cases hk
  · rcases h'.2 with ⟨rfl, _⟩ | ⟨g', cap', cur', rfl, _, hg', _⟩
    · cases hk'
    · simp only [Value.ownBlock, Option.some.injEq] at hk hk'
      subst hk hk'
      rw [hg] at hg'
      injection hg' with q
      injection q with q1 q2
      exact ht q2
theorem cells3a {w : World} {b : Nat} {x y z : Value} {t : TypeId} (h : w.heap[b]? = some (.cells #[x, y, z] t (0, 0))) :
    w.cell? ⟨b, 0, none⟩ = some x ∧ w.cell? ⟨b, 1, none⟩ = some y ∧ w.cell? ⟨b, 2, none⟩ = some z ∧ w.frozen? ⟨b, 0, none⟩ = false ∧ w.frozen? ⟨b, 1, none⟩ = false ∧ w.frozen? ⟨b, 2, none⟩ = false := by
  simp [World.cell?, World.frozen?, h]
theorem row_form {w : World} {B n sz : Nat} {e : TypeId} {v : Value} {xs : List Value} (h : w.ownsRow B e sz v n xs) : ∃ a c, v = .slice a n c := by
  rcases h.2 with ⟨rfl, q⟩ | ⟨g, cap, cur, rfl, _⟩
  · exact ⟨none, 0, by rw [q]⟩
  · exact ⟨_, _, rfl⟩
theorem owns_base {w : World} {B B' n sz : Nat} {e : TypeId} {v : Value} {xs : List Value} (h : w.ownsRow B e sz v n xs) (hB : B' ≤ B) : w.ownsRow B' e sz v n xs := by
  refine ⟨h.1, ?_⟩
  rcases h.2 with q | ⟨g, cap, cur, e, hb, r⟩
  · exact .inl q
  · exact .inr ⟨g, cap, cur, e, Nat.le_trans hB hb, r⟩
theorem cellAt {w : World} {b i : Nat} {cs : Array Value} {x : Value} {t : TypeId} (h : w.heap[b]? = some (.cells cs t (0, 0))) (hx : cs[i]? = some x) : w.cell? ⟨b, i, none⟩ = some x := by simp [World.cell?, h, hx]
theorem heap_alloc0 (w : World) (o : Obj) : (w.alloc o).heap[w.heap.size]? = some o := (MapKept.heap_alloc w o).1
theorem heap2 (w : World) (o1 o2 : Obj) : ∃ W, (w.alloc o1).alloc o2 = W ∧ W.heap[w.heap.size]? = some o1 ∧ W.heap[w.heap.size + 1]? = some o2 ∧ W.heap.size = w.heap.size + 2 ∧ Below w.heap.size w W := by
  refine ⟨_, rfl, ?_, ?_, by simp, (((Only.refl [] w).alloc _).alloc _).below⟩
  · rw [Below.heap_alloc _ _ _ (by simp), (MapKept.heap_alloc w o1).1]
  · simpa using (MapKept.heap_alloc (w.alloc o1) o2).1
theorem cells2e {w : World} {b : Nat} {x y : Value} {t : TypeId} (h : w.heap[b]? = some (.cells #[x, y] t (0, 0))) :
    w.cell? ⟨b, 0, none⟩ = some x ∧ w.cell? ⟨b, 1, none⟩ = some y ∧ w.frozen? ⟨b, 0, none⟩ = false ∧ w.frozen? ⟨b, 1, none⟩ = false := by
  simp [World.cell?, World.frozen?, h]
theorem owns_not {w : World} {B n s k : Nat} {t t' : TypeId} {v : Value} {xs : List Value} {cs : Array Value} (h : w.ownsRow B t s v n xs) (hk : w.heap[k]? = some (.cells cs t' (0, 0))) (ht : t ≠ t') : v.ownBlock ≠ some k := by
  intro e
  rcases h.2 with ⟨rfl, _⟩ | ⟨g, cap, cur, rfl, _, hg, _⟩
  · cases e
  · simp only [Value.ownBlock, Option.some.injEq] at e
    subst e
    rw [hg] at hk
    injection hk with q
    injection q with q1 q2
    exact ht q2
theorem int_info : (Try.prog.info? 3).map (fun i => (i.zero, i.size, i.bytes)) = some (some (.int .i64 0), 1, 8) := by kernel_rfl
theorem int_parts : ∃ i, Try.prog.info? 3 = some i ∧ i.zero = some (.int .i64 0) ∧ i.size = 1 ∧ i.bytes = 8 := by
  have h := int_info
  cases hi : Try.prog.info? 3 with
  | none => simp [hi] at h
  | some i =>
    simp [hi] at h
    exact ⟨i, rfl, h.1, h.2.1, h.2.2⟩
theorem nis_only {w w' : World} {x : Value} {l : List Int} {S : List Nat} (h : NIs w x l) (ho : Only S w w') (hn : ∀ a n c, x = .slice (some a) n c → a.block ∉ S) : NIs w' x l := by
  obtain ⟨hl, ⟨b, off, cap, rfl, hi⟩ | h⟩ := h
  · exact ⟨hl, .inl ⟨b, off, cap, rfl, fun i hil => (ho.cell (p := ⟨b, off + i, none⟩) (lt_of_cell (hi i hil)) (by exact hn ⟨b, off, none⟩ _ _ rfl)).trans (hi i hil)⟩⟩
  · exact ⟨hl, .inr h⟩
theorem below_undrew {w V : World} (h : Below w.drew.heap.size w.drew V) : Below w.heap.size w V := ⟨h.os, h.tape, h.output, h.size, h.block⟩
theorem nequal (x y : Value) (l m : List Int) (w : World) (hx : NIs w x l) (hy : NIs w y m) :
    Calls Try.prog 86 #[x, y] w fun e w' => e = .returned (.bool (decide (l = m))) ∧ Below w.heap.size w w' := by
  have hlx := hx.1
  have hly := hy.1
  by_cases hn : l.length = m.length
  · by_cases h0 : l.length = 0
    · obtain ⟨xa, xc, rfl⟩ := hx.form
      obtain ⟨ya, yc, rfl⟩ := hy.form
      obtain rfl : l = [] := List.eq_nil_of_length_eq_zero h0
      obtain rfl : m = [] := List.eq_nil_of_length_eq_zero (by omega)
      refine (Try.slices_Equal_int_empty xa ya xc 0 yc w (by omega)).mono ?_
      rintro e w' ⟨rfl, rfl⟩
      exact ⟨by simp, Below.refl _ _⟩
    · rcases hx.2 with ⟨b, off, cap, rfl, hi⟩ | ⟨rfl, _⟩
      · rcases hy.2 with ⟨b', off', cap', rfl, hj⟩ | ⟨rfl, _⟩
        · refine (Try.slices_Equal_int b off l.length cap b' off' m.length cap' l m w (Nat.le_refl _) (Nat.le_refl _) (by omega) (by omega) (fun j h => ?_) (fun j h => ?_)).mono ?_
          · rw [hi j h, List.getD_eq_getElem?_getD, List.getElem?_eq_getElem h]
            rfl
          · rw [hj j h, List.getD_eq_getElem?_getD, List.getElem?_eq_getElem h]
            rfl
          · rintro e w' ⟨rfl, q, rfl⟩
            refine ⟨?_, below_drewN (Below.refl _ _) q⟩
            rw [List.take_length, List.take_length]
            congr 2
            rw [Bool.eq_iff_iff]
            simp
        · exact absurd hn (by simpa using h0)
      · exact absurd rfl h0
  · obtain ⟨xa, xc, rfl⟩ := hx.form
    obtain ⟨ya, yc, rfl⟩ := hy.form
    refine (Try.slices_Equal_int_lens xa ya l.length xc m.length yc w hn).mono ?_
    rintro e w' ⟨rfl, rfl⟩
    exact ⟨by rw [decide_eq_false (fun h => hn (congrArg List.length h))], Below.refl _ _⟩
end Go.Proofs.Ytmcajoccfbebiaa
