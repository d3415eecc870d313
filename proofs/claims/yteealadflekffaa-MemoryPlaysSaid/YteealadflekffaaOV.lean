/- Values in memory of one's own: Clone, own, Get say that what they make is a row of one's own. -/
import Derived.Test.YteealadflekffaaRM2
namespace Go.Proofs.Yteealadflekffaa
open Go Go.RowKit Go.MapKept

/-- x is a row of values of one's own, from block B on. -/
def OwnV (w : World) (B : Nat) (x : Value) (s : List Vl) : Prop := w.ownsRow B 28 3 x s.length (flat s)
theorem owns_only {W w2 : World} {base : Nat} {e : TypeId} {size : Nat} {v : Value} {n : Nat} {xs : List Value} {S : List Nat} (h : W.ownsRow base e size v n xs) (hb : Only S W w2) (hn : ∀ k, v.ownBlock = some k → k ∉ S) : w2.ownsRow base e size v n xs := by
  refine ⟨h.1, ?_⟩
  rcases h.2 with q | ⟨g, cap, cur, rfl, hb1, hg, r⟩
  · exact .inl q
  · exact .inr ⟨g, cap, cur, rfl, hb1, (hb.block g (lt_of_heap hg) (hn g rfl)).trans hg, r⟩
theorem owns_base {w : World} {B B' n sz : Nat} {e : TypeId} {v : Value} {xs : List Value} (h : w.ownsRow B e sz v n xs) (hB : B' ≤ B) : w.ownsRow B' e sz v n xs := by
  refine ⟨h.1, ?_⟩
  rcases h.2 with q | ⟨g, cap, cur, e, hb, r⟩
  · exact .inl q
  · exact .inr ⟨g, cap, cur, e, Nat.le_trans hB hb, r⟩
theorem OwnV.sl {w : World} {B : Nat} {x : Value} {s : List Vl} (h : OwnV w B x s) (hl : s.length ≤ 1000000) : SlIs w x s ∧ Fresh B x := SlIs.of_owns h hl rfl

set_option maxHeartbeats 400000 in
theorem clone_own_some (a : Addr) (c : Nat) (l : List Vl) (w : World) (hl : l.length ≤ 1000000) (hc : ∀ j u, (flat l)[j]? = some u → w.cell? (a.add j) = some u) :
    Calls Try.prog 52 #[.slice (some a) l.length c] w fun e w' => ∃ v, e = .returned v ∧ OwnV w' w.heap.size v l ∧ Below w.heap.size w w' := by
  have Hc := hide hc
  clear hc
  have he : ∀ w : World, (binOp .eql 26 (.slice (some a) l.length c) (.slice none 0 0)).run Try.prog w = .ok (.bool false) w := fun w => Lib.run_eql_slice_nil w _ _ (some a) _ _ _ _ Try.underlying26
  obtain ⟨i0, hi, hz0, hz1, hz2⟩ := info_parts3 vinfo
  have hown : (w.alloc (.cells #[] 28)).ownsRow w.heap.size 28 3 (.slice (some ⟨w.heap.size, 0, none⟩) 0 0) 0 [] := World.ownsRow_made w #[] 0 (Nat.le_refl _) (by decide) rfl
  have hnews : ∀ j u, (flat l)[j]? = some u → (w.alloc (.cells #[] 28)).cell? (a.add j) = some u := fun j u hu =>
    ((Below.refl w.heap.size w).alloc (Nat.le_refl _) _).cell (lt_of_cell (Hc.out j u hu)) |>.trans (Hc.out j u hu)
  have Hown := hide hown
  have Hnews := hide hnews
  clear hown hnews
  go_enter Try.func52, Try.ntmps52
  go_wp2_with (at_builtin; refine wpList_append_own _ rfl _ _ 26 rfl w.heap.size 28 i0 (.agg #[.int .u8 0, .int .i64 0, .string ⟨#[]⟩]) 3 32 Try.underlying26 hi hz0 hz1 hz2 rfl (by decide) _ 0 [] rfl Hown.out a l.length c (flat l) rfl (flat_length l) Hnews.out (flat_one l) (by unfold maxLen; omega) (by omega) (by simp) ?_; intro v' w1 hown' hgrow hnil)
  go_ret
  exact ⟨v', rfl, by simpa [OwnV] using hown', ((Below.refl w.heap.size w).alloc (Nat.le_refl _) _).grown hgrow (by simp) (fun k e => by cases e; exact Nat.le_refl _)⟩

theorem clone_own (x : Value) (l : List Vl) (w : World) (hx : SlIs w x l) :
    Calls Try.prog 52 #[x] w fun e w' => ∃ v, e = .returned v ∧ OwnV w' w.heap.size v l ∧ Below w.heap.size w w' := by
  obtain ⟨hl, hx⟩ := hx
  rcases hx with ⟨b, off, cap, rfl, hc⟩ | ⟨rfl, rfl | ⟨a, cap, rfl⟩⟩
  · exact clone_own_some _ _ _ _ hl fun j u hu => by rw [Addr.add_lit]; exact hc.cells_of j u hu
  · have he : ∀ w : World, (binOp .eql 26 (.slice none 0 0) (.slice none 0 0)).run Try.prog w = .ok (.bool true) w := fun w => Lib.run_eql_slice_nil w _ _ none _ _ _ _ Try.underlying26
    go_enter Try.func52, Try.ntmps52
    go_wp2
    go_ret
    exact ⟨_, rfl, World.ownsRow_nil _ _ _ _, Below.refl _ _⟩
  · exact clone_own_some a cap [] w hl fun j u hu => by simp [flat] at hu

/-- The fact (id, t, x), as a value. -/
theorem own_own (id t : Int) (x : Value) (s : List Vl) (w : World) (hx : SlIs w x s) :
    Calls Try.prog 35 #[.agg #[.int .i64 id, .int .i64 t, x]] w fun e w' => ∃ v, e = .returned (.agg #[.int .i64 id, .int .i64 t, v]) ∧ OwnV w' w.heap.size v s ∧ Below w.heap.size w w' := by
  have Hx := hide hx
  clear hx
  obtain ⟨hb1, hb2⟩ := heap_alloc2 w (Obj.cells #[.int .i64 id, .int .i64 t, x] 34) (Obj.cells #[.int .i64 0, .int .i64 0, .slice none 0 0] 34)
  have Hb1 := hide hb1
  have Hb2 := hide hb2
  clear hb1 hb2
  go_enter Try.func35, Try.ntmps35
  go_wp2_with fail
  refine (clone_own x s _ (Hx.out.only (((Only.refl [] w).alloc _).alloc _) (by simp))).mono ?_
  rintro e w2 ⟨v, rfl, hs, hb⟩
  obtain ⟨a, c, rfl⟩ := own_form hs
  have Hs := hide hs
  clear hs
  have hsz : w.heap.size + 2 ≤ w2.heap.size := by have := hb.size; simp at this; omega
  have g1 := (hb.block w.heap.size (by simp; omega)).trans Hb1.out
  have g2 := (hb.block (w.heap.size + 1) (by simp)).trans Hb2.out
  obtain ⟨c0, c1, c2, f0, f1, f2⟩ := cells3 g1
  obtain ⟨d0, d1, d2, k0, k1, k2⟩ := cells3 g2
  have HB := hide hb
  clear g1 g2 hb
  go_wp2
  refine bodyPost_ret (v := .agg #[.int .i64 id, .int .i64 t, .slice a s.length c]) (by simp [results, Try.results35, go_sem, *]) rfl ?_
  have hsz2 : ((w.alloc (Obj.cells #[.int .i64 id, .int .i64 t, x] 34)).alloc (Obj.cells #[.int .i64 0, .int .i64 0, .slice none 0 0] 34)).heap.size = w.heap.size + 2 := by simp
  refine ⟨_, rfl, owns_base (owns_only (S := [w.heap.size, w.heap.size + 1]) Hs.out ?_ fun b hb hm => ?_) (by rw [hsz2]; omega), ?_⟩
  · exact ((((Only.refl _ w2).setCell (.inl (by simp)) _).setCell (.inl (by simp)) _).setCell (.inl (by simp)) _).setCell (.inl (by simp)) _
  · have := (World.ownsRow.lt Hs.out b hb).1
    rw [hsz2] at this
    simp at hm
    omega
  · exact (((((((Below.refl w.heap.size w).alloc (Nat.le_refl _) _).alloc (by simp) _).trans (HB.out.mono (by rw [hsz2]; omega))).setCell (by simp) _).setCell (by simp) _).setCell (by simp) _).setCell (by simp) _

set_option maxHeartbeats 400000 in
theorem get_own_at (b mm : Nat) (M : Mm) (w : World) (h : MemIs w b mm M) (id i t : Int) (a : Option Addr) (n c : Nat) (s : List Vl) (ok : Bool)
    (hl : looked (.agg #[.int .i64 0, .int .i64 0, .slice none 0 0]) (look (M.l.map Fc.pair) id) = .tuple #[.agg #[.int .i64 i, .int .i64 t, .slice a n c], .bool ok])
    (hx : SlIs w (.slice a n c) s) :
    Calls Try.prog 22 #[.pointer (some ⟨b, 0, none⟩), .int .i64 id] w fun e w' => ∃ v, e = .returned (.tuple #[.agg #[.int .i64 i, .int .i64 t, v], .bool ok]) ∧ OwnV w' w.heap.size v s ∧ Below w.heap.size w w' := by
  have o1 : Only [] w (w.alloc (Obj.cells #[.int .i64 0, .int .i64 0, .slice none 0 0] 34)) := (Only.refl _ _).alloc _
  have h1 : MemIs (w.alloc (Obj.cells #[.int .i64 0, .int .i64 0, .slice none 0 0] 34)) b mm M := h.only o1 (by simp) (by simp) (by simp)
  have hlook := run_lookup (P := Try.prog) (t := 67) Try.underlying67 Try.underlying3 h1.map (zero_fact _) id
  rw [hl] at hlook
  obtain ⟨_, _, c2, _⟩ := h1.at
  have Hx := hide hx
  have Hb := hide (lt_of_heap h.cells)
  have HB := hide (heap_alloc2 w (Obj.cells #[.int .i64 0, .int .i64 0, .slice none 0 0] 34) (Obj.cells #[.int .i64 i, .int .i64 t, .slice a n c] 34)).1
  clear hl h h1 o1 hx
  go_enter Try.func22, Try.ntmps22
  go_wp2_with (go_at_call 34; refine (none_some b mm _ c2).mono ?_; rintro e w' ⟨rfl, rfl⟩)
  refine (own_own i t _ s _ (Hx.out.only (((Only.refl [] w).alloc _).alloc _) (by simp))).mono ?_
  rintro e w2 ⟨v, rfl, hs, hb⟩
  obtain ⟨a', c', rfl⟩ := own_form hs
  have hsz2 : ((w.alloc (Obj.cells #[.int .i64 0, .int .i64 0, .slice none 0 0] 34)).alloc (Obj.cells #[.int .i64 i, .int .i64 t, .slice a n c] 34)).heap.size = w.heap.size + 2 := by simp
  rw [hsz2] at hs hb
  have hsz : w.heap.size + 2 ≤ w2.heap.size := by have := hb.size; simp at this; omega
  obtain ⟨d0, d1, d2, k0, k1, k2⟩ := cells3 ((hb.block w.heap.size (by omega)).trans HB.out)
  have Hs := hide hs
  have Hbb := hide hb
  clear hs hb hsz2
  go_wp2
  refine bodyPost_ret (v := .tuple #[.agg #[.int .i64 i, .int .i64 t, .slice a' s.length c'], .bool ok]) (by simp [results, Try.results22, go_sem, *]) rfl ?_
  refine ⟨_, rfl, owns_base (owns_only (S := [w.heap.size]) Hs.out ?_ fun k hk hm => ?_) (by omega), ?_⟩
  · exact (((Only.refl _ w2).setCell (.inl (by simp)) _).setCell (.inl (by simp)) _).setCell (.inl (by simp)) _
  · have := (World.ownsRow.lt Hs.out k hk).1
    simp at hm
    omega
  · exact ((((((Below.refl w.heap.size w).alloc (Nat.le_refl _) _).alloc (by simp) _).trans (Hbb.out.mono (by omega))).setCell (by simp) _).setCell (by simp) _).setCell (by simp) _

theorem get_own_yes (b mm : Nat) (M : Mm) (hM : MemOk M) (w : World) (h : MemIs w b mm M) (f : Fc) (hf : f ∈ M.l) :
    Calls Try.prog 22 #[.pointer (some ⟨b, 0, none⟩), .int .i64 f.id] w fun e w' => ∃ v, e = .returned (.tuple #[.agg #[.int .i64 f.id, .int .i64 f.t, v], .bool true]) ∧ OwnV w' w.heap.size v f.s ∧ Below w.heap.size w w' := by
  have hx := (h.vals f hf).1
  obtain ⟨a, n, c, e⟩ := hx.form
  refine get_own_at b mm M w h f.id f.id f.t a n c f.s true ?_ (e ▸ hx)
  rw [look_yes hM hf, looked, Fc.val, e]

theorem get_own_no (b mm : Nat) (M : Mm) (w : World) (h : MemIs w b mm M) (id : Int) (hf : ∀ f ∈ M.l, f.id ≠ id) :
    Calls Try.prog 22 #[.pointer (some ⟨b, 0, none⟩), .int .i64 id] w fun e w' => ∃ v, e = .returned (.tuple #[.agg #[.int .i64 0, .int .i64 0, v], .bool false]) ∧ OwnV w' w.heap.size v [] ∧ Below w.heap.size w w' := by
  refine get_own_at b mm M w h id 0 0 none 0 0 [] false ?_ ⟨by simp, .inr ⟨rfl, .inl rfl⟩⟩
  rw [look_no hf, looked]

end Go.Proofs.Yteealadflekffaa
