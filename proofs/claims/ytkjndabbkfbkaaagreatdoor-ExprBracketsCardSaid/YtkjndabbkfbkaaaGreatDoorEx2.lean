/- expr: is, open, must, place. -/
import Derived.Test.YtkjndabbkfbkaaaGreatDoorEx1
namespace Go.Proofs.YtkjndabbkfbkaaaGreatDoor
open Go Go.RowKit

set_option maxRecDepth 100000 in
theorem is_any {w : World} {B b d : Nat} {X : List Nat} {vl vt : Value} {ts r : List Tkn} {nds : List Nd} (h : RdAt w B X b vl ts r d vt nds) (s : List UInt8) :
    Calls Tryz.prog 107 #[.pointer (some ⟨b, 0, none⟩), .string ⟨s.toArray⟩] w fun e w' => e = .returned (.bool (isH s r)) ∧ Below w.heap.size w w' := by
  obtain ⟨c0, c1, c2, c3, _⟩ := cells4 h.blk
  have hl := h.suf.len
  have hbig := h.big
  cases r with
  | nil =>
    obtain ⟨va, vc, rfl⟩ := h.toks.form
    have i0 : ¬ (((ts.length - ([] : List Tkn).length : Nat) : Int) < (ts.length : Int)) := by simp
    have i1 : decide (((ts.length - ([] : List Tkn).length : Nat) : Int) < (ts.length : Int)) = false := by simp
    clear h hl
    go_enter Tryz.func107, Tryz.ntmps107
    go_wp2_with fail
    go_quiet (fail)
    go_wp2_with fail
    go_ret
    exact ⟨rfl, below_drewN (Below.refl _ w) _⟩
  | cons t q =>
    obtain ⟨g, c, rfl, hg, hlt, t0, t1, _⟩ := h.head
    obtain ⟨n, hn⟩ : ∃ n, ts.length - (t :: q).length = n := ⟨_, rfl⟩
    rw [hn] at c1 hlt t0 t1
    have i0 : (n : Int) < (ts.length : Int) := by omega
    have i1 : decide ((n : Int) < (ts.length : Int)) = true := by simp; omega
    have i2 : (0 : Int) ≤ (n : Int) := by omega
    clear h hl hn
    by_cases hs : t.w.t = s
    · have e1 : (t.w.t == s) = true := by simpa using hs
      have e2 : isH s (t :: q) = (decide (t.w.k = 1) || decide (t.w.k = 7)) := by simp [isH, hs]
      rw [e2]
      obtain ⟨k, hk⟩ : ∃ k, t.w.k = k := ⟨_, rfl⟩
      rw [hk] at t0 ⊢
      clear hk e2
      rw [hs] at t1
      clear hs e1
      by_cases k1 : k = 1
      · subst k1
        go_enter Tryz.func107, Tryz.ntmps107
        go_wp2_with fail
        go_quiet (fail)
        go_wp2_with fail
        go_ret
        exact ⟨rfl, below_drewN (Below.refl _ w) _⟩
      · have f1 : (k == 1) = false := by simpa using k1
        have f2 : decide (k = 1) = false := by simpa using k1
        rw [f2]
        by_cases k7 : k = 7
        · subst k7
          go_enter Tryz.func107, Tryz.ntmps107
          go_wp2_with fail
          go_quiet (fail)
          go_wp2_with fail
          go_ret
          exact ⟨rfl, below_drewN (Below.refl _ w) _⟩
        · have f3 : (k == 7) = false := by simpa using k7
          have f4 : decide (k = 7) = false := by simpa using k7
          rw [f4]
          go_enter Tryz.func107, Tryz.ntmps107
          go_wp2_with fail
          go_quiet (fail)
          go_wp2_with fail
          go_ret
          exact ⟨rfl, below_drewN (Below.refl _ w) _⟩
    · have e1 : (t.w.t == s) = false := by simpa using hs
      have e2 : isH s (t :: q) = false := by simp [isH, hs]
      rw [e2]
      go_enter Tryz.func107, Tryz.ntmps107
      go_wp2_with fail
      go_quiet (fail)
      go_wp2_with fail
      go_ret
      exact ⟨rfl, below_drewN (Below.refl _ w) _⟩

/-- Reading is given up with an errno. -/
abbrev gaveUp (e : Int) : Ending := .panicked [{ v := .iface 84 (.int .i64 e), recovered := false }]

set_option maxRecDepth 100000 in
theorem open_deep {w : World} {B b : Nat} {X : List Nat} {vl vt : Value} {ts r : List Tkn} {nds : List Nd} (h : RdAt w B X b vl ts r 12 vt nds) :
    Calls Tryz.prog 108 #[.pointer (some ⟨b, 0, none⟩)] w fun e w' => e = gaveUp 12 ∧ w' = w := by
  obtain ⟨c0, c1, c2, c3, cf⟩ := cells4 h.blk
  have c2' : w.cell? ⟨b, 2, none⟩ = some (.int .i64 12) := c2
  clear h cf c2
  go_enter Tryz.func108, Tryz.ntmps108
  go_wp2_with fail
  exact ⟨rfl, rfl, rfl⟩
set_option maxRecDepth 100000 in
theorem open_ok' {w : World} {B b d : Nat} {X : List Nat} {vl vt : Value} {ts r : List Tkn} {nds : List Nd} (h : RdAt w B X b vl ts r d vt nds) (hd : d ≠ 12) :
    Calls Tryz.prog 108 #[.pointer (some ⟨b, 0, none⟩)] w fun e w' => e = .returned (.tuple #[]) ∧ RdAt w' B X b vl ts r (d + 1) vt nds ∧ Only [b] w w' := by
  obtain ⟨c0, c1, c2, c3, cf⟩ := cells4 h.blk
  have hd12 := h.hd
  have cf2 := cf 2
  have e1 : ((d : Int) == 12) = false := by simp; omega
  have hn := h.deep (d' := d + 1) (by omega)
  have hN := hide hn
  have ho := hide (only_setCell w b 2 (.int .i64 ((d + 1 : Nat) : Int)))
  clear h cf hn hd
  go_enter Tryz.func108, Tryz.ntmps108
  go_wp2_with fail
  go_end0
  exact ⟨rfl, hN.out, ho.out⟩
theorem place_tail (w : World) (n : Nat) (o : Obj) (a b x y : Value) (T : TypeId) (ho : o = .cells #[a, b] T) :
    ((((((w.alloc o).drewN n).setCell ⟨w.heap.size, 0, none⟩ x).setCell ⟨w.heap.size, 1, none⟩ y).setCell ⟨w.heap.size, 0, none⟩ x).setCell ⟨w.heap.size, 1, none⟩ y).heap[w.heap.size]? = some (.cells #[x, y] T (0, 0)) := by
  subst ho
  have h0 : ((w.alloc (.cells #[a, b] T)).drewN n).heap[w.heap.size]? = some (.cells #[a, b] T (0, 0)) := heap_alloc0 w _
  rw [setCell_heap (setCell_heap (setCell_heap (setCell_heap h0)))]
  rfl
theorem two_cells {w : World} {b : Nat} {x y : Value} {t : TypeId} (h : w.heap[b]? = some (.cells #[x, y] t (0, 0))) : w.cell? ⟨b, 0, none⟩ = some x ∧ w.cell? ⟨b, 1, none⟩ = some y ∧ ∀ i, w.frozen? ⟨b, i, none⟩ = false :=
  ⟨by simp only [World.cell?, h]; rfl, by simp only [World.cell?, h]; rfl, fun i => by simp only [World.frozen?, h]; simp⟩
set_option maxRecDepth 100000 in
theorem place_any {w : World} {B b d : Nat} {X : List Nat} {vl vt : Value} {ts r : List Tkn} {nds : List Nd} (h : RdAt w B X b vl ts r d vt nds) :
    Calls Tryz.prog 133 #[.pointer (some ⟨b, 0, none⟩)] w fun e w' => e = .returned (.agg #[.int .i64 (plH r).1, .int .i64 (plH r).2]) ∧ Below w.heap.size w w' := by
  obtain ⟨c0, c1, c2, c3, _⟩ := cells4 h.blk
  have hl := h.suf.len
  have hbig := h.big
  have hB := lt_of_heap h.blk
  cases r with
  | nil =>
    obtain ⟨va, vc, rfl⟩ := h.toks.form
    have i0 : ¬ (((ts.length - ([] : List Tkn).length : Nat) : Int) < (ts.length : Int)) := by simp
    have i1 : decide (((ts.length - ([] : List Tkn).length : Nat) : Int) < (ts.length : Int)) = false := by simp
    clear h hl
    go_enter Tryz.func133, Tryz.ntmps133
    go_wp2_with fail
    go_quiet (fail)
    go_wp2_with fail
    refine bodyPost_ret (v := .agg #[.int .i64 0, .int .i64 0]) (by simp [results, Tryz.results133, go_sem, *]) rfl ?_
    exact ⟨rfl, ((below_drewN ((Below.refl _ w).alloc (Nat.le_refl _) _) _).setCell (Nat.le_refl _) _).setCell (Nat.le_refl _) _⟩
  | cons t q =>
    obtain ⟨g, c, rfl, hg, hlt, t0, t1, t2, t3, t4, t5, t6⟩ := h.head
    obtain ⟨n, hn⟩ : ∃ n, ts.length - (t :: q).length = n := ⟨_, rfl⟩
    rw [hn] at c1 hlt t0 t1 t2 t3 t4 t5 t6
    have i0 : (n : Int) < (ts.length : Int) := by omega
    have i1 : decide ((n : Int) < (ts.length : Int)) = true := by simp; omega
    have i2 : (0 : Int) ≤ (n : Int) := by omega
    clear h hl hn
    go_enter Tryz.func133, Tryz.ntmps133
    go_wp2_with fail
    go_quiet (fail)
    go_wp2_with fail
    go_region
    go_wp2_with fail
    obtain ⟨z0, z1, _⟩ := two_cells (place_tail w (nq + 1) (.cells #[.int .i64 0, .int .i64 0] 26) _ _ (.int .i64 t.line) (.int .i64 t.col) _ rfl)
    refine bodyPost_ret (v := .agg #[.int .i64 t.line, .int .i64 t.col]) (by simp [results, Tryz.results133, go_sem, z0, z1]) rfl ?_
    exact ⟨rfl, ((((below_drewN ((Below.refl _ w).alloc (Nat.le_refl _) _) _).setCell (Nat.le_refl _) _).setCell (Nat.le_refl _) _).setCell (Nat.le_refl _) _).setCell (Nat.le_refl _) _⟩
set_option maxRecDepth 100000 in
theorem must_any {w : World} {B b d : Nat} {X : List Nat} {vl vt : Value} {ts r : List Tkn} {nds : List Nd} (h : RdAt w B X b vl ts r d vt nds) (s : List UInt8) :
    Calls Tryz.prog 109 #[.pointer (some ⟨b, 0, none⟩), .string ⟨s.toArray⟩] w fun e w' =>
      if isH s r then e = .returned (.tuple #[]) ∧ RdAt w' B X b vl ts r.tail d vt nds ∧ Only [b] w w' else e = gaveUp 4 ∧ Below w.heap.size w w' := by
  have hi := is_any h s
  have Hi := hide hi
  have H := hide h
  by_cases e : isH s r = true
  · rw [e] at hi Hi
    rw [e]
    simp only [if_true]
    obtain ⟨t, q, rfl⟩ := isH_ne e
    clear hi h
    go_enter Tryz.func109, Tryz.ntmps109
    go_wp2_with fail
    (with_reducible refine Hi.out.mono ?_)
    rintro e V ⟨rfl, hb⟩
    have h' := H.out.below hb
    obtain ⟨c0, c1, c2, c3, cf⟩ := cells4 h'.blk
    have cf1 := cf 1
    have hbig := h'.big
    have hst := hide h'.step
    have ho := hide ((Only.of_below hb [b]).trans (only_setCell V b 1 (.int .i64 (((ts.length - (t :: q).length : Nat) : Int) + 1))))
    clear cf h' H hb
    go_wp2_with fail
    go_end0
    exact ⟨rfl, hst.out, ho.out⟩
  · have e' : isH s r = false := by simpa using e
    rw [e'] at hi Hi
    rw [e']
    simp only [Bool.false_eq_true, if_false]
    clear hi h
    go_enter Tryz.func109, Tryz.ntmps109
    go_wp2_with fail
    (with_reducible refine Hi.out.mono ?_)
    rintro e V ⟨rfl, hb⟩
    have Hb := hide hb
    clear hb
    go_wp2_with fail
    exact ⟨rfl, rfl, Hb.out⟩
end Go.Proofs.YtkjndabbkfbkaaaGreatDoor
