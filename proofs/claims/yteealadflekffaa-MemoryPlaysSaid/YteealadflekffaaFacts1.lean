/- The closure of Facts of package memory: it lays a copy of a fact behind those that are there. -/
import Derived.Test.YteealadflekffaaMem2
import Derived.Deep.AppendLies
import Derived.Deep.RegionLaw
import Derived.Deep.DrawnRows
namespace Go.Proofs.Yteealadflekffaa
attribute [local go_sem ↓] Go.wp_at_zero Go.wp_at_succ
open Go Go.RowKit Go.MapKept

theorem finfo : (Try.prog.info? 34).map (fun i => (i.zero, i.size, i.bytes)) = some (some (.agg #[.int .i64 0, .int .i64 0, .slice none 0 0]), 3, 40) := by kernel_rfl

theorem one_cell {w : World} {b : Nat} {x : Value} {t : TypeId} (h : w.heap[b]? = some (.cells #[x] t (0, 0))) : w.cell? ⟨b, 0, none⟩ = some x ∧ w.frozen? ⟨b, 0, none⟩ = false := by
  simp [World.cell?, World.frozen?, h]

theorem owns_below {W w2 : World} {base : Nat} {e : TypeId} {size : Nat} {v : Value} {n : Nat} {xs : List Value} (h : W.ownsRow base e size v n xs) (hb : Below W.heap.size W w2) : w2.ownsRow base e size v n xs :=
  h.kept (row := none) ⟨hb.os, hb.tape, hb.output, hb.size, fun i hi _ => hb.block i hi⟩ (by cases v.ownBlock <;> simp)

/-- The blocks that the closure may turn: its variable's, and the row's. -/
def fblocks (bl : Nat) (lv : Value) : List Nat := bl :: lv.ownBlock.toList

theorem fadd_end {bl base n g cap ln lc : Nat} {la va : Option Addr} {vn vc : Nat} {xs : List Value} {id t : Int} {s : List Vl} {w W w2 w3 : World} (hne : Value.ownBlock (.slice la ln lc) ≠ some bl)
    (hown : w.ownsRow base 34 3 (.slice la ln lc) n xs) (hblt : bl < w.heap.size) (OW : Only [] w W) (HbW : W.heap[bl]? = some (.cells #[.slice la ln lc] 54 (0, 0))) (Hb : Below W.drew.heap.size W.drew w2)
    (Hs : SlIs w2 (.slice va vn vc) s) (Hfr : Fresh W.drew.heap.size (.slice va vn vc))
    (hown3 : w3.ownsRow base 34 3 (.slice (some ⟨g, 0, none⟩) (n + 1) cap) (n + 1) (xs ++ [.int .i64 id, .int .i64 t, .slice va vn vc]))
    (hgrow : (w2.alloc (.cells #[.int .i64 id, .int .i64 t, .slice va vn vc] 34)).grownBy w3 (Value.ownBlock (.slice la ln lc))) (hat : Value.ownBlock (.slice la ln lc) = some g ∨ g = w2.heap.size + 1) :
    ∃ g' cap' v, (w3.setCell ⟨bl, 0, none⟩ (.slice (some ⟨g, 0, none⟩) (n + 1) cap)).heap[bl]? = some (.cells #[.slice (some ⟨g', 0, none⟩) (n + 1) cap'] 54 (0, 0)) ∧
      (w3.setCell ⟨bl, 0, none⟩ (.slice (some ⟨g, 0, none⟩) (n + 1) cap)).ownsRow base 34 3 (.slice (some ⟨g', 0, none⟩) (n + 1) cap') (n + 1) (xs ++ [.int .i64 id, .int .i64 t, v]) ∧ g' ≠ bl ∧
      SlIs (w3.setCell ⟨bl, 0, none⟩ (.slice (some ⟨g, 0, none⟩) (n + 1) cap)) v s ∧ Fresh w.heap.size v ∧ (Value.ownBlock (.slice la ln lc) = some g' ∨ w.heap.size ≤ g') ∧ (s ≠ [] → ∀ k, blkOf v = some k → k ≠ g') ∧ Only (fblocks bl (.slice la ln lc)) w (w3.setCell ⟨bl, 0, none⟩ (.slice (some ⟨g, 0, none⟩) (n + 1) cap)) := by
  have hW := OW.size
  have h2 : W.heap.size ≤ w2.heap.size := Hb.size
  have hg : g ≠ bl := by
    rintro rfl
    rcases hat with h | h
    · exact hne h
    · omega
  have hlv : ∀ k, Value.ownBlock (.slice la ln lc) = some k → k < w.heap.size := fun k hk => (hown.lt k hk).2
  have o3 : Only (Value.ownBlock (.slice la ln lc)).toList (w2.alloc (.cells #[.int .i64 id, .int .i64 t, .slice va vn vc] 34)) w3 := Only.of_grown hgrow _ fun k hk => by rw [hk]; simp
  have oc : Only [bl] w3 (w3.setCell ⟨bl, 0, none⟩ (.slice (some ⟨g, 0, none⟩) (n + 1) cap)) := (Only.refl _ _).setCell (.inl (by simp)) _
  have hb3 : w3.heap[bl]? = some (.cells #[.slice la ln lc] 54 (0, 0)) :=
    (hgrow.block bl (by simp; omega) (Ne.symm hne)).trans ((((Only.refl [] w2).alloc _).block bl (by omega) (by simp)).trans ((Hb.block bl (Nat.lt_of_lt_of_le hblt hW)).trans HbW))
  refine ⟨g, cap, .slice va vn vc, (setCell_heap hb3).trans (by simp), ownsRow_setCell_other hown3 (by simpa [Value.ownBlock] using hg) _, hg, ?_, Hfr.mono hW, ?_, ?_, ?_⟩
  · refine ((Hs.only ((Only.refl [] w2).alloc _) (by simp)).only o3 fun _ k hk => ?_).only oc fun _ k hk => ?_
    · have h1 : W.heap.size ≤ k := Hfr.le hk
      intro hm
      have := hlv k (by simpa using hm)
      omega
    · have h1 : W.heap.size ≤ k := Hfr.le hk
      simp; omega
  · rcases hat with h | h
    · exact .inl h
    · exact .inr (by omega)
  · intro hn k hk he
    subst he
    have h1 : W.heap.size ≤ k := Hfr.le hk
    have h3 := Hs.blk_lt hn hk
    rcases hat with h | h
    · have := hlv k h
      omega
    · omega
  · unfold fblocks
    exact ((((OW.trans ((Only.refl [] W).drew)).trans (Only.of_below Hb [])).alloc _).mono (by simp)).trans (o3.mono (fun i hi => List.mem_cons_of_mem _ hi)) |>.trans (oc.mono (by simp))

set_option maxHeartbeats 1000000 in
set_option maxRecDepth 20000 in
theorem fadd (bl base n : Nat) (la : Option Addr) (ln lc : Nat) (xs : List Value) (id t : Int) (x : Value) (s : List Vl) (w : World) (hl : w.heap[bl]? = some (.cells #[.slice la ln lc] 54 (0, 0))) (hown : w.ownsRow base 34 3 (.slice la ln lc) n xs)
    (_hbase : base ≤ w.heap.size) (hn : n ≤ 1000) (hne : Value.ownBlock (.slice la ln lc) ≠ some bl) (hx : SlIs w x s) :
    Calls Try.prog 48 #[.agg #[.int .i64 id, .int .i64 t, x], .pointer (some ⟨bl, 0, none⟩)] w fun e w' => e = .returned (.tuple #[]) ∧ ∃ g cap v, w'.heap[bl]? = some (.cells #[.slice (some ⟨g, 0, none⟩) (n + 1) cap] 54 (0, 0)) ∧
      w'.ownsRow base 34 3 (.slice (some ⟨g, 0, none⟩) (n + 1) cap) (n + 1) (xs ++ [.int .i64 id, .int .i64 t, v]) ∧ g ≠ bl ∧ SlIs w' v s ∧ Fresh w.heap.size v ∧ (Value.ownBlock (.slice la ln lc) = some g ∨ w.heap.size ≤ g) ∧ (s ≠ [] → ∀ k, blkOf v = some k → k ≠ g) ∧ Only (fblocks bl (.slice la ln lc)) w w' := by
  obtain ⟨xa, xn, xc, rfl⟩ := hx.form
  obtain ⟨i0, hi, hz0, hz1, hz2⟩ := info_parts3 finfo
  obtain ⟨cl, fl⟩ := one_cell hl
  have hblt := lt_of_heap hl
  have ob : Only [] w (w.alloc (Obj.cells #[.int .i64 id, .int .i64 t, .slice xa xn xc] 34)) := (Only.refl [] _).alloc _
  obtain ⟨b0, b1, b2, _⟩ := cells3 (MapKept.heap_alloc w (Obj.cells #[.int .i64 id, .int .i64 t, .slice xa xn xc] 34)).1
  have fl' := (ob.frozen (p := ⟨bl, 0, none⟩) hblt (by simp)).trans fl
  have cl' := (ob.cell (p := ⟨bl, 0, none⟩) hblt (by simp)).trans cl
  have Hx := hide (hx.only ob (by simp))
  have Hown0 := hide hown
  have Hown := hide (hown.alloc (Obj.cells #[.int .i64 id, .int .i64 t, .slice xa xn xc] 34))
  have Hl := hide hl
  have Hne := hide hne
  have Hne2 := hide (show Value.ownBlock (.slice la ln lc) ≠ some w.heap.size from fun e => by have := (hown.lt _ e).2; omega)
  have Hi := hide hi
  have Hz0 := hide hz0
  have Hz1 := hide hz1
  have Hz2 := hide hz2
  clear hx hown hl cl fl ob hne hi hz0 hz1 hz2
  go_enter Try.func48, Try.ntmps48
  go_wp2_with fail
  obtain ⟨W, hW⟩ : ∃ W, w.alloc (Obj.cells #[.int .i64 id, .int .i64 t, .slice xa xn xc] 34) = W := ⟨_, rfl⟩
  have oW : Only [] w W := by rw [← hW]; exact (Only.refl [] _).alloc _
  have hsW : w.heap.size < W.heap.size := by rw [← hW]; simp
  rw [hW] at Hx Hown b0 b1 b2 cl' fl' ⊢
  have OW := hide oW
  have hbW : bl < W.heap.size := by omega
  have HbW := hide ((oW.block bl hblt (by simp)).trans Hl.out)
  clear hW oW
  go_region_law
    ((first
      | (go_simp; go_at_call 35; refine (own_any id t _ s _ (Hx.out.only (Only.drew (Only.refl [] _)) (by simp))).mono ?_; rintro e w2 ⟨v, rfl, hs, hfr, hb⟩; obtain ⟨va, vn, vc, rfl⟩ := hs.form; have p0 := (hb.cell (p := ⟨bl, 0, none⟩) hbW).trans cl'; have pf := (hb.frozen (p := ⟨bl, 0, none⟩) hbW).trans fl'; have q0 := (hb.cell (p := ⟨w.heap.size, 0, none⟩) hsW).trans b0; have q1 := (hb.cell (p := ⟨w.heap.size, 1, none⟩) hsW).trans b1; have q2 := (hb.cell (p := ⟨w.heap.size, 2, none⟩) hsW).trans b2; have hs2 : W.heap.size ≤ w2.heap.size := hb.size; have p0a := (((Only.refl [] w2).alloc (Obj.cells #[.int .i64 id, .int .i64 t, .slice va vn vc] 34)).cell (p := ⟨bl, 0, none⟩) (by simp; omega) (by simp)).trans p0; have Ow2 := hide ((owns_below (W := W.drew) Hown.out hb).alloc (Obj.cells #[.int .i64 id, .int .i64 t, .slice va vn vc] 34)); have Hs := hide hs; have Hfr := hide hfr; have Hb := hide hb; clear hs hfr hb)
      | (refine step_append_lies _ (by rfl) _ _ _ (by rfl) base 34 i0 (.agg #[.int .i64 0, .int .i64 0, .slice none 0 0]) 3 40 Try.underlying54 Hi.out Hz0.out Hz1.out Hz2.out rfl (by decide) (.slice la ln lc) n xs (by rfl) Ow2.out ⟨w2.heap.size, 0, none⟩ 1 1 [.int .i64 id, .int .i64 t, .slice va vn vc] (by rfl) (by rfl) (World.news_of_block (cs := #[.int .i64 id, .int .i64 t, .slice va vn vc]) (t := 34) (fr := (0, 0)) (heap_alloc_new w2 _)) (by simp [Value.oneCell']) (by decide) (by unfold maxLen; omega) (by omega) (by simp; omega) (w2.heap.size + 1) (by simp) ?_; intro g cap w3 hown3 hgrow hat hlt; have r0 := (hgrow.cell_far ⟨bl, 0, none⟩ (by simp; omega) (Ne.symm Hne.out)).trans ((((Only.refl [] w2).alloc _).cell (p := ⟨bl, 0, none⟩) (by simp; omega) (by simp)).trans p0); have rf := (hgrow.frozen_far ⟨bl, 0, none⟩ (by simp; omega) (Ne.symm Hne.out)).trans ((((Only.refl [] w2).alloc _).frozen (p := ⟨bl, 0, none⟩) (by simp; omega) (by simp)).trans pf); have r1 := (hgrow.cell_far ⟨w.heap.size, 0, none⟩ (by simp; omega) (Ne.symm Hne2.out)).trans ((((Only.refl [] w2).alloc _).cell (p := ⟨w.heap.size, 0, none⟩) (by simp; omega) (by simp)).trans q0); have r2 := (hgrow.cell_far ⟨w.heap.size, 1, none⟩ (by simp; omega) (Ne.symm Hne2.out)).trans ((((Only.refl [] w2).alloc _).cell (p := ⟨w.heap.size, 1, none⟩) (by simp; omega) (by simp)).trans q1); have r3 := (hgrow.cell_far ⟨w.heap.size, 2, none⟩ (by simp; omega) (Ne.symm Hne2.out)).trans ((((Only.refl [] w2).alloc _).cell (p := ⟨w.heap.size, 2, none⟩) (by simp; omega) (by simp)).trans q2))))
  all_goals go_wp2
  all_goals go_end0
  all_goals exact ⟨rfl, fadd_end Hne.out Hown0.out hblt OW.out HbW.out Hb.out Hs.out Hfr.out hown3 hgrow hat⟩

end Go.Proofs.Yteealadflekffaa
