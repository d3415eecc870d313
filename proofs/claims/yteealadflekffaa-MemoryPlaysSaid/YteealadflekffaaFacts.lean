/- The contract of Facts of package memory: all facts, by rising ids, in memory of their own. -/
import Derived.Test.YteealadflekffaaFacts1
import Derived.Test.YteealadflekffaaSorted
namespace Go.Proofs.Yteealadflekffaa
open Go Go.RowKit Go.MapKept Go.Sort Go.Shelf Go.Maps

/-- The cells of facts. -/
def fflat : List Fc → List Value
  | [] => []
  | f :: l => .int .i64 f.id :: .int .i64 f.t :: f.x :: fflat l

theorem fflat_append (l m : List Fc) : fflat (l ++ m) = fflat l ++ fflat m := by
  induction l with
  | nil => rfl
  | cons f l ih => simp [fflat, ih]

theorem fflat_get : ∀ (l : List Fc) (i : Nat) (h : i < l.length), (fflat l)[i * 3]? = some (.int .i64 l[i].id) ∧ (fflat l)[i * 3 + 1]? = some (.int .i64 l[i].t) ∧ (fflat l)[i * 3 + 2]? = some l[i].x
  | [], i, h => by simp at h
  | v :: l, 0, _ => ⟨rfl, rfl, rfl⟩
  | v :: l, i + 1, h => by
    have := fflat_get l i (by simpa using h)
    rw [show (i + 1) * 3 = i * 3 + 3 by omega, show i * 3 + 3 + 1 = i * 3 + 1 + 3 by omega, show i * 3 + 3 + 2 = i * 3 + 2 + 3 by omega]
    simpa [fflat] using this

/-- What a fact says. -/
def Fc.says (f : Fc) : Int × Int × List Vl := (f.id, f.t, f.s)

/-- v is a slice of the facts out, in new memory from block base on. -/
structure FactsIs (w : World) (base : Nat) (v : Value) (out : List Fc) : Prop where
  own : w.ownsRow base 34 3 v out.length (fflat out)
  vals : ∀ f ∈ out, SlIs w f.x f.s ∧ Fresh base f.x ∧ (f.s ≠ [] → ∀ k, blkOf f.x = some k → v.ownBlock ≠ some k)

theorem FactsIs.base {w : World} {B B' : Nat} {v : Value} {out : List Fc} (h : FactsIs w B v out) (hB : B' ≤ B) : FactsIs w B' v out := by
  refine ⟨⟨h.own.1, ?_⟩, fun f hf => ⟨(h.vals f hf).1, (h.vals f hf).2.1.mono hB, (h.vals f hf).2.2⟩⟩
  rcases h.own.2 with q | ⟨g, cap, cur, e, hb, r⟩
  · exact .inl q
  · exact .inr ⟨g, cap, cur, e, Nat.le_trans hB hb, r⟩

theorem FactsIs.only {w w' : World} {B : Nat} {v : Value} {out : List Fc} {S : List Nat} (h : FactsIs w B v out) (ho : Only S w w') (hS : ∀ i ∈ S, i < B) : FactsIs w' B v out := by
  refine ⟨⟨h.own.1, ?_⟩, fun f hf => ⟨(h.vals f hf).1.only ho fun _ k hk hm => by have := (h.vals f hf).2.1.le hk; have := hS k hm; omega, (h.vals f hf).2⟩⟩
  rcases h.own.2 with q | ⟨g, cap, cur, e, hb, hg, r⟩
  · exact .inl q
  · exact .inr ⟨g, cap, cur, e, hb, (ho.block g (lt_of_heap hg) (fun hm => by have := hS g hm; omega)).trans hg, r⟩

theorem FactsIs.snoc {w w' : World} {B n g cap ln lc bl : Nat} {la : Option Addr} {out : List Fc} {id t : Int} {s : List Vl} {v : Value} (hn : out.length = n) (h : FactsIs w B (.slice la ln lc) out) (hB : B ≤ w.heap.size) (hbl : bl < B)
    (hown : w'.ownsRow B 34 3 (.slice (some ⟨g, 0, none⟩) (n + 1) cap) (n + 1) (fflat out ++ [.int .i64 id, .int .i64 t, v])) (hs : SlIs w' v s) (hfr : Fresh w.heap.size v)
    (hg : Value.ownBlock (.slice la ln lc) = some g ∨ w.heap.size ≤ g) (hv : s ≠ [] → ∀ k, blkOf v = some k → k ≠ g) (ho : Only (fblocks bl (.slice la ln lc)) w w') :
    FactsIs w' B (.slice (some ⟨g, 0, none⟩) (n + 1) cap) (out ++ [⟨id, t, s, v⟩]) := by
  refine ⟨by rw [fflat_append, List.length_append, hn]; exact hown, fun f hf => ?_⟩
  rcases List.mem_append.1 hf with hf | hf
  · obtain ⟨h1, h2, h3⟩ := h.vals f hf
    refine ⟨h1.only ho fun hne k hk hm => ?_, h2, fun hne k hk e => ?_⟩
    · have hk1 := h2.le hk
      unfold fblocks at hm
      rcases List.mem_cons.1 hm with rfl | hm
      · omega
      · exact h3 hne k hk (by simpa using hm)
    · simp only [Value.ownBlock, Option.some.injEq] at e
      subst e
      rcases hg with hg | hg
      · exact h3 hne _ hk hg
      · have := h1.blk_lt hne hk
        omega
  · simp only [List.mem_singleton] at hf
    subst hf
    refine ⟨hs, hfr.mono hB, fun hne k hk e => ?_⟩
    simp only [Value.ownBlock, Option.some.injEq] at e
    exact hv hne k hk e.symm

theorem rise_wf {M : Mm} (hM : MemOk M) (hl : M.last ≤ 1000000000) : (∀ p ∈ M.l.map Fc.pair, (Lit.int .i64 p.1).wf = true) ∧ ((M.l.map Fc.pair).map (·.1)).Pairwise (· < ·) := by
  constructor
  · intro p hp
    obtain ⟨f, hf, rfl⟩ := List.mem_map.1 hp
    have := hM.le f hf
    exact WalkArith.wf_i64 (by simp only [Fc.pair]; omega)
  · rw [List.map_map, List.pairwise_map]
    exact hM.ids

set_option maxHeartbeats 1000000 in
theorem facts_any (b mm : Nat) (M : Mm) (hM : MemOk M) (hlast : M.last ≤ 1000000000) (w : World) (h : MemIs w b mm M) :
    Calls Try.prog 24 #[.pointer (some ⟨b, 0, none⟩)] w fun e w' => ∃ v out, e = .returned v ∧ FactsIs w' w.heap.size v out ∧ out.map Fc.says = M.l.map Fc.says ∧ Below w.heap.size w w' := by
  obtain ⟨hwf, hrise⟩ := rise_wf hM hlast
  have o1 : Only [] w (w.alloc (Obj.cells #[.slice none 0 0] 54)) := (Only.refl _ _).alloc _
  have h1 := h.only o1 (by simp) (by simp) (by simp)
  have hlen : M.l.length ≤ 200 := by have := hM.len; have := hM.lim; omega
  have hsk := sorted_keys mm (M.l.map Fc.pair) _ h1.map hwf (by simp; omega) hrise
  rw [World.size_alloc] at hsk
  obtain ⟨c0, c1, c2, _⟩ := h1.at
  have Hsk := hide hsk
  have H1 := hide h1
  have H := hide h
  have HM := hide hM
  have Hblk := hide (MapKept.heap_alloc w (Obj.cells #[.slice none 0 0] 54)).1
  clear hsk h1 h hM hwf hrise o1
  go_enter Try.func24, Try.ntmps24
  go_wp2_with (go_at_call 34; refine (none_some b mm _ c2).mono ?_; rintro e w' ⟨rfl, rfl⟩)
  refine (keys_any mm _).mono ?_
  rintro e w' ⟨rfl, rfl⟩
  rw [World.size_alloc]
  go_wp2_with fail
  refine Hsk.out.mono ?_
  rintro e W ⟨ka, kn, kc, rfl, hrow, rfl, hb⟩
  rw [List.length_map] at hrow ⊢
  have oW : Only [] (w.alloc (Obj.cells #[.slice none 0 0] 54)) W := ((Only.refl [] _).alloc _).trans (Only.of_below (by simpa using hb) [])
  have hsW : w.heap.size + 1 ≤ W.heap.size := by have := oW.size; simpa using this
  have HW := hide (H1.out.only oW (by simp) (by simp) (by simp))
  have HblW := hide ((oW.block w.heap.size (by simp) (by simp)).trans Hblk.out)
  have HBW := hide (show Below w.heap.size w W from ((Below.refl w.heap.size w).alloc (Nat.le_refl _) _).trans ⟨oW.os, oW.tape, oW.output, oW.size, fun i hi => oW.block i (by simp; omega) (by simp)⟩)
  clear hb oW
  obtain ⟨cb, fb⟩ := one_cell HblW.out
  rcases hrow.2 with ⟨e, h0⟩ | ⟨gk, cap, cur, e, hgk, hcur, _⟩
  · injection e with e1 e2 e3
    subst e1 e3
    have hM0 : M.l = [] := List.eq_nil_of_length_eq_zero e2
    have HM0 := hide hM0
    rw [e2]
    clear hrow h0 e2 hM0
    go_wp2_with fail
    go_loopw [16] (fun i wr => i = .int .i64 0 ∧ wr = W) (fun _ _ => 0)
    case atStart => exact ⟨rfl, rfl⟩
    case round =>
      obtain ⟨rfl, rfl⟩ := hrel
      go_wp2
      refine bodyPost_ret (v := .slice none 0 0) (by simp [results, Try.results24, go_sem, *]) rfl ?_
      refine ⟨_, [], rfl, ⟨World.ownsRow_nil _ _ _ _, by simp⟩, by rw [HM0.out], HBW.out.setCell (Nat.le_refl _) _⟩
  · injection e with e1 e2 e3
    subst e1 e3
    have hids : ∀ k (hk : k < M.l.length), W.cell? ⟨gk, k, none⟩ = some (.int .i64 M.l[k].id) := by
      intro k hk
      have := hrow.cells (g := gk) rfl k (.int .i64 M.l[k].id) (by simp [hk, Fc.pair, encZ])
      rwa [Addr.add_lit, Nat.zero_add] at this
    have Hids := hide hids
    have hgW := lt_of_heap hcur
    have Hne := hide (show gk ≠ w.heap.size from by omega)
    clear hrow hcur hids e2
    go_wp2_with fail
    go_loopw [16] (fun i wr => ∃ k : Nat, k ≤ M.l.length ∧ i = .int .i64 k ∧ Hid (∃ la ln lc out, wr.heap[w.heap.size]? = some (.cells #[.slice la ln lc] 54 (0, 0)) ∧ FactsIs wr W.heap.size (.slice la ln lc) out ∧ out.map Fc.says = (M.l.take k).map Fc.says ∧ Only [w.heap.size] W wr)) (fun i _ => M.l.length - (intOf i).toNat)
    case atStart => exact ⟨0, Nat.zero_le _, rfl, none, 0, 0, [], HblW.out, ⟨World.ownsRow_nil _ _ _ _, by simp⟩, by simp, Only.refl _ _⟩
    case round =>
      obtain ⟨k, hk, rfl, hR⟩ := hrel
      obtain ⟨la, ln, lc, out, hblk, hfa, hsay, ho⟩ := hR.out
      have hm := HW.out.only ho (by have := lt_of_heap H.out.cells; simp; omega) (by have := H.out.map.lt; simp; omega) (fun f hf hn k hk => by have := (H.out.vals f hf).1.blk_lt hn hk; simp; omega)
      obtain ⟨_, _, m2, _⟩ := hm.at
      have hlk : out.length = k := by have := congrArg List.length hsay; simpa [Nat.min_eq_left hk] using this
      by_cases hlt : k < M.l.length
      · have hid := (ho.cell (p := ⟨gk, k, none⟩) hgW (by simpa using Hne.out)).trans (Hids.out k hlt)
        have hlook := run_lookup1 (P := Try.prog) (t := 67) Try.underlying67 Try.underlying3 hm.map (zero_fact _) M.l[k].id
        rw [look_yes HM.out (List.getElem_mem hlt)] at hlook
        simp only [Option.getD_some, Fc.val] at hlook
        have hx := (hm.vals _ (List.getElem_mem hlt)).1
        have Hadd := hide (fadd w.heap.size W.heap.size out.length la ln lc (fflat out) M.l[k].id M.l[k].t M.l[k].x M.l[k].s wr hblk hfa.own ho.size (by omega) (fun e => by have := (hfa.own.lt _ e).1; omega) hx)
        obtain ⟨xa, xn, xc, hxf⟩ := hx.form
        rw [hxf] at hlook Hadd
        have Hblk := hide hblk
        have Hfa := hide hfa
        have Hsay := hide hsay
        have Ho := hide ho
        have Hlk := hide hlk
        clear hblk hfa hsay ho hm hlk hx hR hxf
        go_wp2_with fail
        refine Hadd.out.mono ?_
        rintro e w' ⟨rfl, g, cap', v, hblk', hown', hgne, hs', hfr', hgg, hvg, ho'⟩
        have hstep := Ho.out.step ho' fun i hi => by
          unfold fblocks at hi
          rcases List.mem_cons.1 hi with rfl | hi
          · exact .inl (by simp)
          · exact .inr (Hfa.out.own.lt i (by simpa using hi)).1
        have hnew := FactsIs.snoc rfl Hfa.out Ho.out.size (by omega) hown' hs' hfr' hgg hvg ho'
        have Hblk' := hide hblk'
        have Hstep := hide hstep
        have Hnew := hide hnew
        clear hblk' hown' hgne hs' hfr' hgg hvg ho' hstep hnew
        go_wp2
        go_roundw
        case rel =>
          refine ⟨k + 1, by omega, by go_num, some ⟨g, 0, none⟩, _, cap', _, Hblk'.out, Hnew.out, ?_, Hstep.out⟩
          rw [List.map_append, Hsay.out, List.take_succ_eq_append_getElem hlt, List.map_append]
          rfl
        case measure => simp [intOf]; omega
      · obtain ⟨e1, e2⟩ := one_cell hblk
        have Hblk := hide hblk
        have Hfa := hide hfa
        have Hsay := hide hsay
        have Ho := hide ho
        clear hblk hfa hsay ho hm hlk hR
        go_wp2
        refine bodyPost_ret (v := .slice la ln lc) (by simp [results, Try.results24, go_sem, *]) rfl ?_
        refine ⟨_, out, rfl, (Hfa.out.only (S := [w.heap.size]) ((Only.refl _ _).setCell (.inl (by simp)) _) (by simp; omega)).base (by omega), ?_, (below_only HBW.out Ho.out (by simp) (by omega)).setCell (Nat.le_refl _) _⟩
        rw [Hsay.out, List.take_of_length_le (by omega)]

theorem FactsIs.form {w : World} {B : Nat} {v : Value} {out : List Fc} (h : FactsIs w B v out) : ∃ a c, v = .slice a out.length c := by
  rcases h.own.2 with ⟨rfl, q⟩ | ⟨g, cap, cur, rfl, _⟩
  · exact ⟨none, 0, by rw [q]⟩
  · exact ⟨_, _, rfl⟩

theorem facts_len (b mm : Nat) (M : Mm) (hM : MemOk M) (hlast : M.last ≤ 1000000000) (w : World) (h : MemIs w b mm M) :
    Calls Try.prog 24 #[.pointer (some ⟨b, 0, none⟩)] w fun e w' => (∃ a c, e = .returned (.slice a M.l.length c)) ∧ Below w.heap.size w w' := by
  refine (facts_any b mm M hM hlast w h).mono ?_
  rintro e w' ⟨v, out, rfl, hf, hs, hb⟩
  obtain ⟨a, c, rfl⟩ := hf.form
  have := congrArg List.length hs
  simp only [List.length_map] at this
  exact ⟨⟨a, c, by rw [this]⟩, hb⟩

end Go.Proofs.Yteealadflekffaa
