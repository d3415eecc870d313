/- Facts: all facts, each one's values in a row of their own. -/
import Derived.Test.YteealadflekffaaFacts
import Derived.Test.YteealadflekffaaOV
import Derived.Test.YteealadflekffaaRM3
namespace Go.Proofs.Yteealadflekffaa
attribute [local go_sem ↓] Go.wp_at_zero Go.wp_at_succ
open Go Go.RowKit Go.MapKept Go.Sort Go.Shelf Go.Maps

theorem own_form3 {w : World} {B : Nat} {v : Value} {s : List Vl} (h : OwnV w B v s) : ∃ a n c, v = .slice a n c := by
  obtain ⟨a, c, e⟩ := own_form h
  exact ⟨a, _, c, e⟩
theorem fadd_own_end {bl base n g cap ln lc : Nat} {la va : Option Addr} {vn vc : Nat} {xs : List Value} {id t : Int} {s : List Vl} {w W w2 w3 : World} (hne : Value.ownBlock (.slice la ln lc) ≠ some bl)
    (hown : w.ownsRow base 34 3 (.slice la ln lc) n xs) (hblt : bl < w.heap.size) (OW : Only [] w W) (HbW : W.heap[bl]? = some (.cells #[.slice la ln lc] 54 (0, 0))) (Hb : Below W.drew.heap.size W.drew w2)
    (Hs : OwnV w2 W.drew.heap.size (.slice va vn vc) s)
    (hown3 : w3.ownsRow base 34 3 (.slice (some ⟨g, 0, none⟩) (n + 1) cap) (n + 1) (xs ++ [.int .i64 id, .int .i64 t, .slice va vn vc]))
    (hgrow : (w2.alloc (.cells #[.int .i64 id, .int .i64 t, .slice va vn vc] 34)).grownBy w3 (Value.ownBlock (.slice la ln lc))) (hat : Value.ownBlock (.slice la ln lc) = some g ∨ g = w2.heap.size + 1) :
    ∃ g' cap' v, (w3.setCell ⟨bl, 0, none⟩ (.slice (some ⟨g, 0, none⟩) (n + 1) cap)).heap[bl]? = some (.cells #[.slice (some ⟨g', 0, none⟩) (n + 1) cap'] 54 (0, 0)) ∧
      (w3.setCell ⟨bl, 0, none⟩ (.slice (some ⟨g, 0, none⟩) (n + 1) cap)).ownsRow base 34 3 (.slice (some ⟨g', 0, none⟩) (n + 1) cap') (n + 1) (xs ++ [.int .i64 id, .int .i64 t, v]) ∧ g' ≠ bl ∧
      OwnV (w3.setCell ⟨bl, 0, none⟩ (.slice (some ⟨g, 0, none⟩) (n + 1) cap)) w.heap.size v s ∧ (Value.ownBlock (.slice la ln lc) = some g' ∨ w.heap.size ≤ g') ∧ Only (fblocks bl (.slice la ln lc)) w (w3.setCell ⟨bl, 0, none⟩ (.slice (some ⟨g, 0, none⟩) (n + 1) cap)) := by
  have hW := OW.size
  have h2 : W.heap.size ≤ w2.heap.size := Hb.size
  have hg : g ≠ bl := by
    rintro rfl
    rcases hat with h | h
    · exact hne h
    · omega
  have hlv : ∀ k, Value.ownBlock (.slice la ln lc) = some k → k < w.heap.size := fun k hk => (hown.lt k hk).2
  have o3 : Only (Value.ownBlock (.slice la ln lc)).toList (w2.alloc (.cells #[.int .i64 id, .int .i64 t, .slice va vn vc] 34)) w3 := Only.of_grown hgrow _ fun k hk => by rw [hk]; simp
  have oc : Only [bl] w3 (w3.setCell ⟨bl, 0, none⟩ (.slice (some ⟨g, 0, none⟩) (n + 1) cap)) := (Only.refl _ _).setCell (.inl (by simp)) _
  have hb3 : w3.heap[bl]? = some (.cells #[.slice la ln lc] 54 (0, 0)) :=
    (hgrow.block bl (by simp; omega) (Ne.symm hne)).trans ((((Only.refl [] w2).alloc _).block bl (by omega) (by simp)).trans ((Hb.block bl (Nat.lt_of_lt_of_le hblt hW)).trans HbW))
  have hlo : ∀ k, Value.ownBlock (.slice va vn vc) = some k → W.heap.size ≤ k := fun k hk => (World.ownsRow.lt Hs k hk).1
  refine ⟨g, cap, .slice va vn vc, (setCell_heap hb3).trans (by simp), ownsRow_setCell_other hown3 (by simpa [Value.ownBlock] using hg) _, hg, owns_base (owns_only (owns_only (owns_only Hs ((Only.refl [] w2).alloc _) (by simp)) o3 fun k hk => ?_) oc fun k hk => ?_) hW, ?_, ?_⟩
  · have h1 := hlo k hk
    intro hm
    have := hlv k (by simpa using hm)
    omega
  · have h1 := hlo k hk
    simp; omega
  · rcases hat with h | h
    · exact .inl h
    · exact .inr (by omega)
  · unfold fblocks
    exact ((((OW.trans ((Only.refl [] W).drew)).trans (Only.of_below Hb [])).alloc _).mono (by simp)).trans (o3.mono (fun i hi => List.mem_cons_of_mem _ hi)) |>.trans (oc.mono (by simp))

set_option maxHeartbeats 1000000 in
set_option maxRecDepth 20000 in
theorem fadd_own (bl base n : Nat) (la : Option Addr) (ln lc : Nat) (xs : List Value) (id t : Int) (x : Value) (s : List Vl) (w : World) (hl : w.heap[bl]? = some (.cells #[.slice la ln lc] 54 (0, 0))) (hown : w.ownsRow base 34 3 (.slice la ln lc) n xs)
    (_hbase : base ≤ w.heap.size) (hn : n ≤ 1000) (hne : Value.ownBlock (.slice la ln lc) ≠ some bl) (hx : SlIs w x s) :
    Calls Try.prog 48 #[.agg #[.int .i64 id, .int .i64 t, x], .pointer (some ⟨bl, 0, none⟩)] w fun e w' => e = .returned (.tuple #[]) ∧ ∃ g cap v, w'.heap[bl]? = some (.cells #[.slice (some ⟨g, 0, none⟩) (n + 1) cap] 54 (0, 0)) ∧
      w'.ownsRow base 34 3 (.slice (some ⟨g, 0, none⟩) (n + 1) cap) (n + 1) (xs ++ [.int .i64 id, .int .i64 t, v]) ∧ g ≠ bl ∧ OwnV w' w.heap.size v s ∧ (Value.ownBlock (.slice la ln lc) = some g ∨ w.heap.size ≤ g) ∧ Only (fblocks bl (.slice la ln lc)) w w' := by
  obtain ⟨xa, xn, xc, rfl⟩ := hx.form
  obtain ⟨i0, hi, hz0, hz1, hz2⟩ := info_parts3 finfo
  obtain ⟨cl, fl⟩ := one_cell hl
  have hblt := lt_of_heap hl
  have ob : Only [] w (w.alloc (Obj.cells #[.int .i64 id, .int .i64 t, .slice xa xn xc] 34)) := (Only.refl [] _).alloc _
  obtain ⟨b0, b1, b2, _⟩ := cells3 (MapKept.heap_alloc w (Obj.cells #[.int .i64 id, .int .i64 t, .slice xa xn xc] 34)).1
  have fl' := (ob.frozen (p := ⟨bl, 0, none⟩) hblt (by simp)).trans fl
  have cl' := (ob.cell (p := ⟨bl, 0, none⟩) hblt (by simp)).trans cl
  have Hx := hide (hx.only ob (by simp))
  have Hown0 := hide hown
  have Hown := hide (hown.alloc (Obj.cells #[.int .i64 id, .int .i64 t, .slice xa xn xc] 34))
  have Hl := hide hl
  have Hne := hide hne
  have Hne2 := hide (show Value.ownBlock (.slice la ln lc) ≠ some w.heap.size from fun e => by have := (hown.lt _ e).2; omega)
  have Hi := hide hi
  have Hz0 := hide hz0
  have Hz1 := hide hz1
  have Hz2 := hide hz2
  clear hx hown hl cl fl ob hne hi hz0 hz1 hz2
  go_enter Try.func48, Try.ntmps48
  go_wp2_with fail
  obtain ⟨W, hW⟩ : ∃ W, w.alloc (Obj.cells #[.int .i64 id, .int .i64 t, .slice xa xn xc] 34) = W := ⟨_, rfl⟩
  have oW : Only [] w W := by rw [← hW]; exact (Only.refl [] _).alloc _
  have hsW : w.heap.size < W.heap.size := by rw [← hW]; simp
  rw [hW] at Hx Hown b0 b1 b2 cl' fl' ⊢
  have OW := hide oW
  have hbW : bl < W.heap.size := by omega
  have HbW := hide ((oW.block bl hblt (by simp)).trans Hl.out)
  clear hW oW
  go_region_law
    ((first
      | (go_simp; go_at_call 35; refine (own_own id t _ s _ (Hx.out.only (Only.drew (Only.refl [] _)) (by simp))).mono ?_; rintro e w2 ⟨v, rfl, hs, hb⟩; obtain ⟨va, vn, vc, rfl⟩ := own_form3 hs; have p0 := (hb.cell (p := ⟨bl, 0, none⟩) hbW).trans cl'; have pf := (hb.frozen (p := ⟨bl, 0, none⟩) hbW).trans fl'; have q0 := (hb.cell (p := ⟨w.heap.size, 0, none⟩) hsW).trans b0; have q1 := (hb.cell (p := ⟨w.heap.size, 1, none⟩) hsW).trans b1; have q2 := (hb.cell (p := ⟨w.heap.size, 2, none⟩) hsW).trans b2; have hs2 : W.heap.size ≤ w2.heap.size := hb.size; have p0a := (((Only.refl [] w2).alloc (Obj.cells #[.int .i64 id, .int .i64 t, .slice va vn vc] 34)).cell (p := ⟨bl, 0, none⟩) (by simp; omega) (by simp)).trans p0; have Ow2 := hide ((owns_below (W := W.drew) Hown.out hb).alloc (Obj.cells #[.int .i64 id, .int .i64 t, .slice va vn vc] 34)); have Hs := hide hs; have Hb := hide hb; clear hs hb)
      | (refine step_append_lies _ (by rfl) _ _ _ (by rfl) base 34 i0 (.agg #[.int .i64 0, .int .i64 0, .slice none 0 0]) 3 40 Try.underlying54 Hi.out Hz0.out Hz1.out Hz2.out rfl (by decide) (.slice la ln lc) n xs (by rfl) Ow2.out ⟨w2.heap.size, 0, none⟩ 1 1 [.int .i64 id, .int .i64 t, .slice va vn vc] (by rfl) (by rfl) (World.news_of_block (cs := #[.int .i64 id, .int .i64 t, .slice va vn vc]) (t := 34) (fr := (0, 0)) (heap_alloc_new w2 _)) (by simp [Value.oneCell']) (by decide) (by unfold maxLen; omega) (by omega) (by simp; omega) (w2.heap.size + 1) (by simp) ?_; intro g cap w3 hown3 hgrow hat hlt; have r0 := (hgrow.cell_far ⟨bl, 0, none⟩ (by simp; omega) (Ne.symm Hne.out)).trans ((((Only.refl [] w2).alloc _).cell (p := ⟨bl, 0, none⟩) (by simp; omega) (by simp)).trans p0); have rf := (hgrow.frozen_far ⟨bl, 0, none⟩ (by simp; omega) (Ne.symm Hne.out)).trans ((((Only.refl [] w2).alloc _).frozen (p := ⟨bl, 0, none⟩) (by simp; omega) (by simp)).trans pf); have r1 := (hgrow.cell_far ⟨w.heap.size, 0, none⟩ (by simp; omega) (Ne.symm Hne2.out)).trans ((((Only.refl [] w2).alloc _).cell (p := ⟨w.heap.size, 0, none⟩) (by simp; omega) (by simp)).trans q0); have r2 := (hgrow.cell_far ⟨w.heap.size, 1, none⟩ (by simp; omega) (Ne.symm Hne2.out)).trans ((((Only.refl [] w2).alloc _).cell (p := ⟨w.heap.size, 1, none⟩) (by simp; omega) (by simp)).trans q1); have r3 := (hgrow.cell_far ⟨w.heap.size, 2, none⟩ (by simp; omega) (Ne.symm Hne2.out)).trans ((((Only.refl [] w2).alloc _).cell (p := ⟨w.heap.size, 2, none⟩) (by simp; omega) (by simp)).trans q2))))
  all_goals go_wp2
  all_goals go_end0
  all_goals exact ⟨rfl, fadd_own_end Hne.out Hown0.out hblt OW.out HbW.out Hb.out Hs.out hown3 hgrow hat⟩

/-- v is a slice of the facts out, in new memory from block base on, each one's values in a row of their own. -/
structure FactsO (w : World) (base : Nat) (v : Value) (out : List Fc) : Prop where
  own : w.ownsRow base 34 3 v out.length (fflat out)
  vals : ∀ f ∈ out, OwnV w base f.x f.s
theorem tne : 34 ≠ 28 := by decide

theorem FactsO.base {w : World} {B B' : Nat} {v : Value} {out : List Fc} (h : FactsO w B v out) (hB : B' ≤ B) : FactsO w B' v out :=
  ⟨owns_base h.own hB, fun f hf => owns_base (h.vals f hf) hB⟩

theorem FactsO.only {w w' : World} {B : Nat} {v : Value} {out : List Fc} {S : List Nat} (h : FactsO w B v out) (ho : Only S w w') (hS : ∀ i ∈ S, i < B) : FactsO w' B v out :=
  ⟨owns_only h.own ho fun k hk hm => by have := (h.own.lt k hk).1; have := hS k hm; omega, fun f hf => owns_only (h.vals f hf) ho fun k hk hm => by have := (World.ownsRow.lt (h.vals f hf) k hk).1; have := hS k hm; omega⟩

theorem FactsO.snoc {w w' : World} {B n g cap ln lc bl : Nat} {la : Option Addr} {out : List Fc} {id t : Int} {s : List Vl} {v : Value} (hn : out.length = n) (h : FactsO w B (.slice la ln lc) out) (hB : B ≤ w.heap.size) (hbl : bl < B)
    (hown : w'.ownsRow B 34 3 (.slice (some ⟨g, 0, none⟩) (n + 1) cap) (n + 1) (fflat out ++ [.int .i64 id, .int .i64 t, v])) (hs : OwnV w' w.heap.size v s) (ho : Only (fblocks bl (.slice la ln lc)) w w') :
    FactsO w' B (.slice (some ⟨g, 0, none⟩) (n + 1) cap) (out ++ [⟨id, t, s, v⟩]) := by
  refine ⟨by rw [fflat_append, List.length_append, hn]; exact hown, fun f hf => ?_⟩
  rcases List.mem_append.1 hf with hf | hf
  · have h1 := h.vals f hf
    refine owns_only h1 ho fun k hk hm => ?_
    have hk1 := (World.ownsRow.lt h1 k hk).1
    unfold fblocks at hm
    rcases List.mem_cons.1 hm with rfl | hm
    · omega
    · rcases own_apart tne h.own h1 with q | q
      · rw [hk] at q
        cases q
      · exact q (by rw [hk]; exact (by simpa using hm : _ = some k).symm)
  · simp only [List.mem_singleton] at hf
    subst hf
    exact owns_base hs hB

set_option maxHeartbeats 1000000 in
theorem facts_own (b mm : Nat) (M : Mm) (hM : MemOk M) (hlast : M.last ≤ 1000000000) (w : World) (h : MemIs w b mm M) :
    Calls Try.prog 24 #[.pointer (some ⟨b, 0, none⟩)] w fun e w' => ∃ v out, e = .returned v ∧ FactsO w' w.heap.size v out ∧ out.map Fc.says = M.l.map Fc.says ∧ Below w.heap.size w w' := by
  obtain ⟨hwf, hrise⟩ := rise_wf hM hlast
  have o1 : Only [] w (w.alloc (Obj.cells #[.slice none 0 0] 54)) := (Only.refl _ _).alloc _
  have h1 := h.only o1 (by simp) (by simp) (by simp)
  have hlen : M.l.length ≤ 200 := by have := hM.len; have := hM.lim; omega
  have hsk := sorted_keys mm (M.l.map Fc.pair) _ h1.map hwf (by simp; omega) hrise
  rw [World.size_alloc] at hsk
  obtain ⟨c0, c1, c2, _⟩ := h1.at
  have Hsk := hide hsk
  have H1 := hide h1
  have H := hide h
  have HM := hide hM
  have Hblk := hide (MapKept.heap_alloc w (Obj.cells #[.slice none 0 0] 54)).1
  clear hsk h1 h hM hwf hrise o1
  go_enter Try.func24, Try.ntmps24
  go_wp2_with (go_at_call 34; refine (none_some b mm _ c2).mono ?_; rintro e w' ⟨rfl, rfl⟩)
  refine (keys_any mm _).mono ?_
  rintro e w' ⟨rfl, rfl⟩
  rw [World.size_alloc]
  go_wp2_with fail
  refine Hsk.out.mono ?_
  rintro e W ⟨ka, kn, kc, rfl, hrow, rfl, hb⟩
  rw [List.length_map] at hrow ⊢
  have oW : Only [] (w.alloc (Obj.cells #[.slice none 0 0] 54)) W := ((Only.refl [] _).alloc _).trans (Only.of_below (by simpa using hb) [])
  have hsW : w.heap.size + 1 ≤ W.heap.size := by have := oW.size; simpa using this
  have HW := hide (H1.out.only oW (by simp) (by simp) (by simp))
  have HblW := hide ((oW.block w.heap.size (by simp) (by simp)).trans Hblk.out)
  have HBW := hide (show Below w.heap.size w W from ((Below.refl w.heap.size w).alloc (Nat.le_refl _) _).trans ⟨oW.os, oW.tape, oW.output, oW.size, fun i hi => oW.block i (by simp; omega) (by simp)⟩)
  clear hb oW
  obtain ⟨cb, fb⟩ := one_cell HblW.out
  rcases hrow.2 with ⟨e, h0⟩ | ⟨gk, cap, cur, e, hgk, hcur, _⟩
  · injection e with e1 e2 e3
    subst e1 e3
    have hM0 : M.l = [] := List.eq_nil_of_length_eq_zero e2
    have HM0 := hide hM0
    rw [e2]
    clear hrow h0 e2 hM0
    go_wp2_with fail
    go_loopw [16] (fun i wr => i = .int .i64 0 ∧ wr = W) (fun _ _ => 0)
    case atStart => exact ⟨rfl, rfl⟩
    case round =>
      obtain ⟨rfl, rfl⟩ := hrel
      go_wp2
      refine bodyPost_ret (v := .slice none 0 0) (by simp [results, Try.results24, go_sem, *]) rfl ?_
      refine ⟨_, [], rfl, ⟨World.ownsRow_nil _ _ _ _, by simp⟩, by rw [HM0.out], HBW.out.setCell (Nat.le_refl _) _⟩
  · injection e with e1 e2 e3
    subst e1 e3
    have hids : ∀ k (hk : k < M.l.length), W.cell? ⟨gk, k, none⟩ = some (.int .i64 M.l[k].id) := by
      intro k hk
      have := hrow.cells (g := gk) rfl k (.int .i64 M.l[k].id) (by simp [hk, Fc.pair, encZ])
      rwa [Addr.add_lit, Nat.zero_add] at this
    have Hids := hide hids
    have hgW := lt_of_heap hcur
    have Hne := hide (show gk ≠ w.heap.size from by omega)
    clear hrow hcur hids e2
    go_wp2_with fail
    go_loopw [16] (fun i wr => ∃ k : Nat, k ≤ M.l.length ∧ i = .int .i64 k ∧ Hid (∃ la ln lc out, wr.heap[w.heap.size]? = some (.cells #[.slice la ln lc] 54 (0, 0)) ∧ FactsO wr W.heap.size (.slice la ln lc) out ∧ out.map Fc.says = (M.l.take k).map Fc.says ∧ Only [w.heap.size] W wr)) (fun i _ => M.l.length - (intOf i).toNat)
    case atStart => exact ⟨0, Nat.zero_le _, rfl, none, 0, 0, [], HblW.out, ⟨World.ownsRow_nil _ _ _ _, by simp⟩, by simp, Only.refl _ _⟩
    case round =>
      obtain ⟨k, hk, rfl, hR⟩ := hrel
      obtain ⟨la, ln, lc, out, hblk, hfa, hsay, ho⟩ := hR.out
      have hm := HW.out.only ho (by have := lt_of_heap H.out.cells; simp; omega) (by have := H.out.map.lt; simp; omega) (fun f hf hn k hk => by have := (H.out.vals f hf).1.blk_lt hn hk; simp; omega)
      obtain ⟨_, _, m2, _⟩ := hm.at
      have hlk : out.length = k := by have := congrArg List.length hsay; simpa [Nat.min_eq_left hk] using this
      by_cases hlt : k < M.l.length
      · have hid := (ho.cell (p := ⟨gk, k, none⟩) hgW (by simpa using Hne.out)).trans (Hids.out k hlt)
        have hlook := run_lookup1 (P := Try.prog) (t := 67) Try.underlying67 Try.underlying3 hm.map (zero_fact _) M.l[k].id
        rw [look_yes HM.out (List.getElem_mem hlt)] at hlook
        simp only [Option.getD_some, Fc.val] at hlook
        have hx := (hm.vals _ (List.getElem_mem hlt)).1
        have Hadd := hide (fadd_own w.heap.size W.heap.size out.length la ln lc (fflat out) M.l[k].id M.l[k].t M.l[k].x M.l[k].s wr hblk hfa.own ho.size (by omega) (fun e => by have := (hfa.own.lt _ e).1; omega) hx)
        obtain ⟨xa, xn, xc, hxf⟩ := hx.form
        rw [hxf] at hlook Hadd
        have Hblk := hide hblk
        have Hfa := hide hfa
        have Hsay := hide hsay
        have Ho := hide ho
        have Hlk := hide hlk
        clear hblk hfa hsay ho hm hlk hx hR hxf
        go_wp2_with fail
        refine Hadd.out.mono ?_
        rintro e w' ⟨rfl, g, cap', v, hblk', hown', hgne, hs', hgg, ho'⟩
        have hstep := Ho.out.step ho' fun i hi => by
          unfold fblocks at hi
          rcases List.mem_cons.1 hi with rfl | hi
          · exact .inl (by simp)
          · exact .inr (Hfa.out.own.lt i (by simpa using hi)).1
        have hnew := FactsO.snoc rfl Hfa.out Ho.out.size (by omega) hown' hs' ho'
        have Hblk' := hide hblk'
        have Hstep := hide hstep
        have Hnew := hide hnew
        clear hblk' hown' hgne hs' hgg ho' hstep hnew
        go_wp2
        go_roundw
        case rel =>
          refine ⟨k + 1, by omega, by go_num, some ⟨g, 0, none⟩, _, cap', _, Hblk'.out, Hnew.out, ?_, Hstep.out⟩
          rw [List.map_append, Hsay.out, List.take_succ_eq_append_getElem hlt, List.map_append]
          rfl
        case measure => simp [intOf]; omega
      · obtain ⟨e1, e2⟩ := one_cell hblk
        have Hblk := hide hblk
        have Hfa := hide hfa
        have Hsay := hide hsay
        have Ho := hide ho
        clear hblk hfa hsay ho hm hlk hR
        go_wp2
        refine bodyPost_ret (v := .slice la ln lc) (by simp [results, Try.results24, go_sem, *]) rfl ?_
        refine ⟨_, out, rfl, (Hfa.out.only (S := [w.heap.size]) ((Only.refl _ _).setCell (.inl (by simp)) _) (by simp; omega)).base (by omega), ?_, (below_only HBW.out Ho.out (by simp) (by omega)).setCell (Nat.le_refl _) _⟩
        rw [Hsay.out, List.take_of_length_le (by omega)]

theorem FactsO.form {w : World} {B : Nat} {v : Value} {out : List Fc} (h : FactsO w B v out) : ∃ a c, v = .slice a out.length c := by
  rcases h.own.2 with ⟨rfl, q⟩ | ⟨g, cap, cur, rfl, _⟩
  · exact ⟨none, 0, by rw [q]⟩
  · exact ⟨_, _, rfl⟩

end Go.Proofs.Yteealadflekffaa
