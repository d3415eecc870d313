/- The memory of package memory: what a memory in the heap holds (MemIs), and the contracts of its methods. -/
import Derived.Test.YteealadflekffaaVals
namespace Go.Proofs.Yteealadflekffaa
open Go Go.RowKit Go.MapKept

theorem bcell {W w1 : World} (hb : Below W.heap.size W w1) : (∀ b o, b < W.heap.size → w1.cell? ⟨b, o, none⟩ = W.cell? ⟨b, o, none⟩) ∧ (∀ b o, b < W.heap.size → w1.frozen? ⟨b, o, none⟩ = W.frozen? ⟨b, o, none⟩) :=
  ⟨fun b o h => hb.cell (p := ⟨b, o, none⟩) h, fun b o h => hb.frozen (p := ⟨b, o, none⟩) h⟩

theorem Fresh.mono {B B' : Nat} {x : Value} (h : Fresh B x) (hB : B' ≤ B) : Fresh B' x := by
  rcases h with h | ⟨g, n, c, h, hg⟩
  · exact .inl h
  · exact .inr ⟨g, n, c, h, Nat.le_trans hB hg⟩
theorem Fresh.le {B : Nat} {x : Value} (h : Fresh B x) {b : Nat} (hb : blkOf x = some b) : B ≤ b := by
  rcases h with rfl | ⟨g, n, c, rfl, hg⟩
  · simp [blkOf] at hb
  · simp only [blkOf, Option.some.injEq] at hb
    omega

theorem cells3 {w : World} {b : Nat} {x y z : Value} {t : TypeId} (h : w.heap[b]? = some (.cells #[x, y, z] t (0, 0))) :
    w.cell? ⟨b, 0, none⟩ = some x ∧ w.cell? ⟨b, 1, none⟩ = some y ∧ w.cell? ⟨b, 2, none⟩ = some z ∧ w.frozen? ⟨b, 0, none⟩ = false ∧ w.frozen? ⟨b, 1, none⟩ = false ∧ w.frozen? ⟨b, 2, none⟩ = false := by
  simp [World.cell?, World.frozen?, h]

theorem heap_alloc2 (w : World) (o o' : Obj) : ((w.alloc o).alloc o').heap[w.heap.size]? = some o ∧ ((w.alloc o).alloc o').heap[w.heap.size + 1]? = some o' := by
  have h := (MapKept.heap_alloc w o).1
  have h1 := (MapKept.heap_alloc (w.alloc o) o').2 w.heap.size (by simp)
  have h2 := (MapKept.heap_alloc (w.alloc o) o').1
  exact ⟨h1.trans h, by simpa using h2⟩

/-- The fact (id, t, x), as a value. -/
theorem own_any (id t : Int) (x : Value) (s : List Vl) (w : World) (hx : SlIs w x s) :
    Calls Try.prog 35 #[.agg #[.int .i64 id, .int .i64 t, x]] w fun e w' => ∃ v, e = .returned (.agg #[.int .i64 id, .int .i64 t, v]) ∧ SlIs w' v s ∧ Fresh w.heap.size v ∧ Below w.heap.size w w' := by
  have Hx := hide hx
  clear hx
  obtain ⟨hb1, hb2⟩ := heap_alloc2 w (Obj.cells #[.int .i64 id, .int .i64 t, x] 34) (Obj.cells #[.int .i64 0, .int .i64 0, .slice none 0 0] 34)
  have Hb1 := hide hb1
  have Hb2 := hide hb2
  clear hb1 hb2
  go_enter Try.func35, Try.ntmps35
  go_wp2_with fail
  refine (clone_any x s _ (Hx.out.only (((Only.refl [] w).alloc _).alloc _) (by simp))).mono ?_
  rintro e w2 ⟨v, rfl, hs, hfr, hb⟩
  obtain ⟨a, n, c, rfl⟩ : ∃ a n c, v = .slice a n c := by
    rcases hfr with rfl | ⟨g, n, c, rfl, _⟩ <;> exact ⟨_, _, _, rfl⟩
  have Hs := hide hs
  have Hfr := hide hfr
  clear hs hfr
  have hsz : w.heap.size + 2 ≤ w2.heap.size := by have := hb.size; simp at this; omega
  have g1 := (hb.block w.heap.size (by simp; omega)).trans Hb1.out
  have g2 := (hb.block (w.heap.size + 1) (by simp)).trans Hb2.out
  obtain ⟨c0, c1, c2, f0, f1, f2⟩ := cells3 g1
  obtain ⟨d0, d1, d2, k0, k1, k2⟩ := cells3 g2
  have HB := hide hb
  clear g1 g2 hb
  go_wp2
  refine bodyPost_ret (v := .agg #[.int .i64 id, .int .i64 t, .slice a n c]) (by simp [results, Try.results35, go_sem, *]) rfl ?_
  have hsz2 : ((w.alloc (Obj.cells #[.int .i64 id, .int .i64 t, x] 34)).alloc (Obj.cells #[.int .i64 0, .int .i64 0, .slice none 0 0] 34)).heap.size = w.heap.size + 2 := by simp
  refine ⟨_, rfl, Hs.out.only (S := [w.heap.size, w.heap.size + 1]) ?_ fun _ b hb hm => ?_, Hfr.out.mono (by rw [hsz2]; omega), ?_⟩
  · exact ((((Only.refl _ w2).setCell (.inl (by simp)) _).setCell (.inl (by simp)) _).setCell (.inl (by simp)) _).setCell (.inl (by simp)) _
  · have := Hfr.out.le hb
    rw [hsz2] at this
    simp at hm
    omega
  · exact (((((((Below.refl w.heap.size w).alloc (Nat.le_refl _) _).alloc (by simp) _).trans (HB.out.mono (by rw [hsz2]; omega))).setCell (by simp) _).setCell (by simp) _).setCell (by simp) _).setCell (by simp) _

/-- A fact: its id, its template, its values, and the slice that holds them. -/
structure Fc where
  id : Int
  t : Int
  s : List Vl
  x : Value
def Fc.val (f : Fc) : Value := .agg #[.int .i64 f.id, .int .i64 f.t, f.x]
def Fc.pair (f : Fc) : Int × Value := (f.id, f.val)
/-- A memory: its limit, its last id, its facts in the order of their coming. -/
structure Mm where
  limit : Int
  last : Int
  l : List Fc

/-- Block b is the memory M; its map lies in block mm. -/
structure MemIs (w : World) (b mm : Nat) (M : Mm) : Prop where
  cells : w.heap[b]? = some (.cells #[.int .i64 M.limit, .int .i64 M.last, .map (some mm)] 69 (0, 0))
  map : IMap w mm (M.l.map Fc.pair)
  vals : ∀ f ∈ M.l, SlIs w f.x f.s ∧ (f.s ≠ [] → ∀ k, blkOf f.x = some k → k ≠ b ∧ k ≠ mm)

/-- What holds of every memory. -/
structure MemOk (M : Mm) : Prop where
  ids : M.l.Pairwise (fun f g => f.id < g.id)
  le : ∀ f ∈ M.l, 1 ≤ f.id ∧ f.id ≤ M.last
  uniq : M.l.Pairwise (fun f g => ¬ (f.t = g.t ∧ f.s = g.s))
  last : 0 ≤ M.last
  lim : 1 ≤ M.limit ∧ M.limit ≤ 200
  len : (M.l.length : Int) ≤ M.limit

theorem MemIs.only {w w' : World} {b mm : Nat} {M : Mm} {S : List Nat} (h : MemIs w b mm M) (ho : Only S w w') (hb : b ∉ S) (hm : mm ∉ S) (hx : ∀ f ∈ M.l, f.s ≠ [] → ∀ k, blkOf f.x = some k → k ∉ S) : MemIs w' b mm M :=
  ⟨(ho.block b (lt_of_heap h.cells) hb).trans h.cells, h.map.only ho hm, fun f hf => ⟨(h.vals f hf).1.only ho (hx f hf), (h.vals f hf).2⟩⟩
theorem MemIs.below {w w' : World} {b mm : Nat} {M : Mm} (h : MemIs w b mm M) (ho : Below w.heap.size w w') : MemIs w' b mm M := h.only (Only.of_below ho []) (by simp) (by simp) (by simp)

def Mm.hit (M : Mm) (t : Int) (s : List Vl) : Option Fc := M.l.find? (fun f => decide (f.t = t ∧ f.s = s))
def Mm.find (M : Mm) (t : Int) (s : List Vl) : Int := match M.hit t s with | some f => f.id | none => 0
def Mm.res (M : Mm) (t : Int) (s : List Vl) (left : List (Int × Value)) : Int := match M.hit t s with | some f => if left.any (fun p => p.1 == f.id) then 0 else f.id | none => 0

theorem Mm.hit_some {M : Mm} {t : Int} {s : List Vl} {f : Fc} (h : M.hit t s = some f) : f ∈ M.l ∧ f.t = t ∧ f.s = s :=
  ⟨List.mem_of_find?_eq_some h, by simpa using List.find?_some h⟩
theorem Mm.hit_none {M : Mm} {t : Int} {s : List Vl} (h : M.hit t s = none) {f : Fc} (hf : f ∈ M.l) : ¬ (f.t = t ∧ f.s = s) := by
  have := List.find?_eq_none.1 h f hf
  simpa using this

theorem Mm.res_start (M : Mm) (t : Int) (s : List Vl) : M.res t s (M.l.map Fc.pair) = 0 := by
  unfold Mm.res
  cases h : M.hit t s with
  | none => rfl
  | some f =>
    have : (M.l.map Fc.pair).any (fun p => p.1 == f.id) = true := List.any_eq_true.2 ⟨f.pair, List.mem_map.2 ⟨f, (Mm.hit_some h).1, rfl⟩, by simp [Fc.pair]⟩
    simp [this]
theorem Mm.res_end (M : Mm) (t : Int) (s : List Vl) : M.res t s [] = M.find t s := by
  unfold Mm.res Mm.find
  cases M.hit t s <;> simp

theorem Mm.res_step {M : Mm} (hM : MemOk M) (t : Int) (s : List Vl) (left : List (Int × Value)) {f : Fc} (hf : f ∈ M.l) :
    M.res t s (drop left f.id) = if f.t = t ∧ f.s = s then f.id else M.res t s left := by
  unfold Mm.res
  cases h : M.hit t s with
  | none => simp [Mm.hit_none h hf]
  | some g =>
    obtain ⟨hg, h1, h2⟩ := Mm.hit_some h
    by_cases hm : f.t = t ∧ f.s = s
    · have hfg : f = g := by
        rcases pairwise_cases hM.uniq hf hg with q | q | q
        · exact q
        · exact absurd ⟨hm.1.trans h1.symm, hm.2.trans h2.symm⟩ q
        · exact absurd ⟨h1.trans hm.1.symm, h2.trans hm.2.symm⟩ q
      subst hfg
      have : (drop left f.id).any (fun p => p.1 == f.id) = false := by
        rw [List.any_eq_false]
        intro p hp
        have := (List.mem_filter.1 hp).2
        simpa using this
      simp [this, hm]
    · have hne : f.id ≠ g.id := by
        rcases pairwise_cases hM.ids hf hg with q | q | q
        · subst q; exact absurd ⟨h1, h2⟩ hm
        · omega
        · omega
      have : (drop left f.id).any (fun p => p.1 == g.id) = left.any (fun p => p.1 == g.id) := by
        rw [Bool.eq_iff_iff, List.any_eq_true, List.any_eq_true]
        constructor
        · rintro ⟨p, hp, q⟩
          exact ⟨p, (List.mem_filter.1 hp).1, q⟩
        · rintro ⟨p, hp, q⟩
          refine ⟨p, List.mem_filter.2 ⟨hp, ?_⟩, q⟩
          have : p.1 = g.id := by simpa using q
          simp [this, Ne.symm hne]
      rw [if_neg hm]
      simp only
      rw [this]

theorem none_nil (w : World) : Calls Try.prog 34 #[.pointer none] w fun e w' => e = .returned (.bool true) ∧ w = w' := by
  go_enter Try.func34, Try.ntmps34
  go_wp2
  go_ret
  exact ⟨rfl, rfl⟩

theorem none_some (b m : Nat) (w : World) (h2 : w.cell? ⟨b, 2, none⟩ = some (.map (some m))) : Calls Try.prog 34 #[.pointer (some ⟨b, 0, none⟩)] w fun e w' => e = .returned (.bool false) ∧ w = w' := by
  have hm : ∀ w : World, (binOp .eql 67 (.map (some m)) (.map none)).run Try.prog w = .ok (.bool false) w := fun w => run_eql_map_nil w _ _ _ (some m) Try.underlying67
  go_enter Try.func34, Try.ntmps34
  go_wp2
  go_ret
  exact ⟨rfl, rfl⟩

theorem MemIs.at {w : World} {b mm : Nat} {M : Mm} (h : MemIs w b mm M) : w.cell? ⟨b, 0, none⟩ = some (.int .i64 M.limit) ∧ w.cell? ⟨b, 1, none⟩ = some (.int .i64 M.last) ∧ w.cell? ⟨b, 2, none⟩ = some (.map (some mm)) ∧
    w.frozen? ⟨b, 0, none⟩ = false ∧ w.frozen? ⟨b, 1, none⟩ = false ∧ w.frozen? ⟨b, 2, none⟩ = false := cells3 h.cells

set_option maxHeartbeats 400000 in
theorem find_any (b mm : Nat) (M : Mm) (hM : MemOk M) (t : Int) (x : Value) (s : List Vl) (w : World) (h : MemIs w b mm M) (hx : SlIs w x s) :
    Calls Try.prog 15 #[.pointer (some ⟨b, 0, none⟩), .int .i64 t, x] w fun e w' => e = .returned (.int .i64 (M.find t s)) ∧ Below w.heap.size w w' := by
  obtain ⟨_, _, c2, _⟩ := h.at
  have Hx := hide hx
  have H := hide h
  have HM := hide hM
  obtain ⟨w0, hrun, hit, ho, hsz⟩ := run_range (P := Try.prog) (t := 67) Try.underlying67 h.map
  have Hit := hide hit
  have Ho := hide ho
  clear h hx hM hit ho hsz
  go_enter Try.func15, Try.ntmps15
  go_wp2_with (go_at_call 34; refine (none_some b mm _ c2).mono ?_; rintro e w' ⟨rfl, rfl⟩)
  clear hrun
  go_loopw [6] (fun v wr => ∃ left, v = .int .i64 (M.res t s left) ∧ Hid (IIter wr mm w.heap.size (M.l.map Fc.pair) left) ∧ Hid (Below w.heap.size w wr)) (fun _ wr => wr.rangeLeft mm w.heap.size)
  case atStart => exact ⟨_, by rw [Mm.res_start], Hit.out, Ho.out.below⟩
  case round =>
    obtain ⟨left, rfl, hit, hb⟩ := hrel
    rcases run_next (P := Try.prog) hit.out with ⟨rfl, hrun⟩ | ⟨p, hp, w1, hrun, hpl, hit1, hlt, ho1, hsz1, hent⟩
    · go_wp2
      go_ret
      exact ⟨by rw [Mm.res_end]; rfl, hb.out⟩
    · obtain ⟨f, hf, rfl⟩ := List.mem_map.1 hpl
      have Hit1 := hide hit1
      have Hlt := hide hlt
      have Ho1 := hide ho1
      have Hsz1 := hide hsz1
      have Hf := hide hf
      clear hpl hp hit1 hlt ho1 hsz1 hf
      simp only [Fc.pair, Fc.val] at hrun hent
      have hb1 : Below w.heap.size w w1 := below_only hb.out Ho1.out (by simp) hb.out.size
      have Hb1 := hide hb1
      have hvx := ((H.out.below hb1).vals f Hf.out).1
      have Hx1 := hide (Hx.out.only (Only.of_below hb1 []) (by simp))
      have Hm := hide (show wr.rangeLeft mm w.heap.size = left.length from hit.out.left_eq)
      clear hb1
      obtain ⟨a, n, c, hfx⟩ := hvx.form
      rw [hfx] at hrun hent hvx
      have Hvx := hide hvx
      have Hfx := hide hfx
      clear hvx hfx hit hb
      by_cases ht : f.t = t
      · have hteq : (f.t == t) = true := by simpa using ht
        have Ht := hide ht
        clear ht
        go_wp2_with fail
        refine (equal_any _ _ f.s s _ (Hvx.out.only ((Only.refl [] _).alloc _) (by simp)) (Hx1.out.only ((Only.refl [] _).alloc _) (by simp))).mono ?_
        rintro e w2 ⟨rfl, nq, rfl⟩
        by_cases hs : f.s = s
        · have hseq : decide (f.s = s) = true := by simpa using hs
          have Hs := hide hs
          clear hs
          go_wp2
          go_roundw
          case rel =>
            refine ⟨drop left f.id, ?_, Hit1.out.only (((Only.refl [] _).alloc _).drewN _) (by simp) (by simp), below_drewN (Hb1.out.alloc Hb1.out.size _) _⟩
            rw [Mm.res_step HM.out t s left Hf.out, if_pos ⟨Ht.out, Hs.out⟩]
          case measure =>
            rw [Hm.out, (Hit1.out.only (((Only.refl [] _).alloc _).drewN _) (by simp) (by simp)).left_eq]
            exact Hlt.out
        · have hseq : decide (f.s = s) = false := by simpa using hs
          have Hs := hide hs
          clear hs
          go_wp2
          go_roundw
          case rel =>
            refine ⟨drop left f.id, ?_, Hit1.out.only (((Only.refl [] _).alloc _).drewN _) (by simp) (by simp), below_drewN (Hb1.out.alloc Hb1.out.size _) _⟩
            rw [Mm.res_step HM.out t s left Hf.out, if_neg (fun h => Hs.out h.2)]
          case measure =>
            rw [Hm.out, (Hit1.out.only (((Only.refl [] _).alloc _).drewN _) (by simp) (by simp)).left_eq]
            exact Hlt.out
      · have hteq : (f.t == t) = false := by simpa using ht
        have Ht := hide ht
        clear ht
        go_wp2
        go_roundw
        case rel =>
          refine ⟨drop left f.id, ?_, Hit1.out.only ((Only.refl [] _).alloc _) (by simp) (by simp), Hb1.out.alloc Hb1.out.size _⟩
          rw [Mm.res_step HM.out t s left Hf.out, if_neg (fun h => Ht.out h.1)]
        case measure =>
          rw [Hm.out, (Hit1.out.only ((Only.refl [] _).alloc _) (by simp) (by simp)).left_eq]
          exact Hlt.out

theorem len_any (b mm : Nat) (M : Mm) (w : World) (h : MemIs w b mm M) :
    Calls Try.prog 12 #[.pointer (some ⟨b, 0, none⟩)] w fun e w' => e = .returned (.int .i64 (M.l.length : Int)) ∧ w = w' := by
  obtain ⟨_, _, c2, _⟩ := h.at
  have hlen := fun ty => run_len_map (P := Try.prog) (t := 67) Try.underlying67 h.map ty
  rw [List.length_map] at hlen
  clear h
  go_enter Try.func12, Try.ntmps12
  go_wp2_with (go_at_call 34; refine (none_some b mm _ c2).mono ?_; rintro e w' ⟨rfl, rfl⟩)
  go_ret
  exact ⟨rfl, rfl⟩

theorem last_any (b mm : Nat) (M : Mm) (w : World) (h : MemIs w b mm M) :
    Calls Try.prog 13 #[.pointer (some ⟨b, 0, none⟩)] w fun e w' => e = .returned (.int .i64 M.last) ∧ w = w' := by
  obtain ⟨_, c1, c2, _⟩ := h.at
  clear h
  go_enter Try.func13, Try.ntmps13
  go_wp2_with (go_at_call 34; refine (none_some b mm _ c2).mono ?_; rintro e w' ⟨rfl, rfl⟩)
  go_ret
  exact ⟨rfl, rfl⟩

/-- New, with a limit that may be. -/
theorem new_any (n : Int) (h1 : 1 ≤ n) (h2 : n ≤ 200) (w : World) :
    Calls Try.prog 9 #[.int .i64 n] w fun e w' => ∃ b mm, e = .returned (.tuple #[.pointer (some ⟨b, 0, none⟩), .int .i64 0]) ∧ MemIs w' b mm ⟨n, 0, []⟩ ∧ Below w.heap.size w w' ∧ w.heap.size ≤ b ∧ w.heap.size ≤ mm := by
  have hmm := @run_makeMap Try.prog
  go_enter Try.func9, Try.ntmps9
  go_wp2
  go_ret2
  refine ⟨w.heap.size + 1, w.heap.size, rfl, ⟨?_, ?_, by simp⟩, ((Below.refl w.heap.size w).alloc (Nat.le_refl _) _).alloc (by simp) _, by omega, by omega⟩
  · simpa using (MapKept.heap_alloc (w.alloc (.map #[] 0)) _).1
  · exact (IMap.new w).only ((Only.refl [] _).alloc _) (by simp)

theorem memOk_new (n : Int) (h1 : 1 ≤ n) (h2 : n ≤ 200) : MemOk ⟨n, 0, []⟩ := ⟨by simp, by simp, by simp, by simp, ⟨h1, h2⟩, by simp; omega⟩

end Go.Proofs.Yteealadflekffaa
