/- slices.SortedFunc(maps.Keys(m), cmp.Compare[int]) on a map from int: the keys, rising. -/
import Derived.Test.YteealadflekffaaChecked
import Derived.Test.YteealadflekffaaBase
import Derived.Test.YteealadflekffaaShelf
import Derived.Test.YteealadflekffaaIter
import Derived.Shelf.SlIterI.Sorted
namespace Go.Proofs.Yteealadflekffaa
open Go Go.RowKit Go.MapKept Go.Sort Go.Shelf Go.Maps

/-- Every value reads as true: nothing is asked of values. -/
def anyR (_ : Value) : Option (DataW Unit × List MemPlace) := some (.lit (.bool true), [])

theorem imap_owns {w : World} {b : Nat} {l : List (Int × Value)} (h : IMap w b l) (hwf : ∀ p ∈ l, (Lit.int .i64 p.1).wf = true) (hlen : l.length ≤ 1000000) :
    ∃ D : DataW Unit, w.ownsMap Try.prog 3 anyR b l.length D ∧ (intKeys D).Perm (l.map (·.1)) ∧ Maps.size D = l.length := by
  obtain ⟨es, c, h1, h2, h3⟩ := h
  have hsz := IMap.size h3
  have hrd : ∀ x ∈ es.toList, ∃ p ∈ l, x.key = .int .i64 p.1 ∧ WideElems.rd Try.prog 3 anyR x = some (.int .i64 p.1, .lit (.bool true)) := by
    intro x hx
    obtain ⟨p, hp, hk, hv⟩ := entry_at h3 hx
    refine ⟨p, hp, hk, ?_⟩
    simp [WideElems.rd, hk, keyOf, Try.underlying3, mapKey, hwf p hp, anyR]
  have hrg : es.toList.map (WideElems.rg Try.prog 3 anyR) = l.map (fun p => (Lit.int .i64 p.1, DataW.lit (.bool true))) := by
    have : es.toList.map (WideElems.rg Try.prog 3 anyR) = (es.toList.map (fun e => (e.key, e.val))).map (fun q => match q.1 with | .int .i64 n => (Lit.int .i64 n, DataW.lit (.bool true)) | _ => (Lit.bool false, DataW.nil)) := by
      rw [List.map_map]
      refine List.map_congr_left fun x hx => ?_
      obtain ⟨p, hp, hk, hr⟩ := hrd x hx
      simp [WideElems.rg, hr, hk]
    rw [this, h3, List.map_map]
    rfl
  refine ⟨.map ((es.toList.map (WideElems.rg Try.prog 3 anyR)).foldr DataW.insert []), ⟨es, c, h1, ⟨by unfold maxLen; omega, h2, fun x hx => ?_⟩, by omega, rfl⟩, ?_, ?_⟩
  · obtain ⟨p, _, _, hr⟩ := hrd x hx
    exact ⟨_, hr⟩
  · rw [hrg]
    unfold intKeys
    refine ((WideShapes.sorted_perm _).map _).trans ?_
    rw [List.map_map]
    exact List.Perm.of_eq (List.map_congr_left fun p _ => rfl)
  · simp [Maps.size, length_sorted, hsz]


/-- slices.Collect of maps.Keys: the keys, in some order, in a new row. -/
theorem collect_keys (b : Nat) (l : List (Int × Value)) (w : World) (h : IMap w b l) (hwf : ∀ p ∈ l, (Lit.int .i64 p.1).wf = true) (hlen : l.length ≤ 1000000) :
    Calls Try.prog 56 #[.func (.func 58) #[] #[.pointer (some ⟨w.heap.size, 0, none⟩)]] (w.alloc (.cells #[.map (some b)] 67)) fun e w' => ∃ (v : Value) (ss : List Int), e = .returned v ∧ ss.Perm (l.map (·.1)) ∧
      w'.ownsRow (w.heap.size + 1) 3 1 v ss.length (ss.map encZ) ∧ (v = .slice none 0 0 ↔ ss = []) ∧ Below (w.heap.size + 1) (w.alloc (.cells #[.map (some b)] 67)) w' := by
  obtain ⟨D, hown, hperm, hsize⟩ := imap_owns h hwf hlen
  have hbl := h.lt
  have hseq : SeqGives Fence.wide 2 Try.prog 58 #[.pointer (some ⟨w.heap.size, 0, none⟩)] encZ (fun ss => ss.Perm (intKeys D)) (Maps.size D) (w.alloc (.cells #[.map (some b)] 67)) :=
    AnyZI.keys_gives (ρ := Try.keys50_ren) { Try.keys50 with } Fence.wide _ trivial rfl (by omega) w.heap.size b l.length D _ (by simp) (by simp) (by
      obtain ⟨es, clock, hb, Ft, hs, hD⟩ := hown
      exact ⟨es, clock, (Below.heap_alloc _ _ b hbl).trans hb, Ft, hs, hD⟩)
  have hc := AnyZI.collect_in Try.collect56 Fence.wide 4 trivial trivial rfl (by omega) 58 #[.pointer (some ⟨w.heap.size, 0, none⟩)] trivial (enters_of Try.func58 (by kernel_rfl) rfl) _ _ (by rw [hsize]; unfold maxLen; omega) (by rw [hsize]; omega) _ hseq
  refine (callsIn_wide.1 hc).mono ?_
  rintro e w' ⟨v, ss, rfl, hp, hrow, hnil, hb⟩
  simp only [World.size_alloc] at hrow hb
  exact ⟨v, ss, rfl, hp.trans hperm, hrow, hnil, hb⟩

theorem keys_any (b : Nat) (w : World) : Calls Try.prog 50 #[.map (some b)] w fun e w' =>
    e = .returned (.func (.func 58) #[] #[.pointer (some ⟨w.heap.size, 0, none⟩)]) ∧ w' = w.alloc (.cells #[.map (some b)] 67) :=
  callsIn_wide.1 (AnyZI.keys_in Try.keys50 Fence.wide 5 trivial rfl (some b) w)

/-- Ints, rising. -/
theorem cmp_swo : SWO (ltOf Lib.compareInt) := by
  have e : ∀ x y, ltOf Lib.compareInt x y = decide (x < y) := fun x y => by
    unfold ltOf Lib.compareInt
    by_cases h : x < y
    · simp [h]
    · by_cases h2 : y < x <;> simp [h, h2]
  exact ⟨fun x => by simp [e], fun x y z => by simp only [e, decide_eq_true_eq]; omega, fun x y z => by simp only [e, decide_eq_false_iff_not]; omega⟩

theorem sorted_unique : ∀ {a b : List Int}, a.Perm b → a.Pairwise (· < ·) → b.Pairwise (· ≤ ·) → b = a := fun hp ha hb =>
  (List.Perm.eq_of_pairwise (le := (· ≤ ·)) (fun _ _ _ _ h1 h2 => Int.le_antisymm h1 h2) hb (ha.imp fun h => Int.le_of_lt h) hp.symm)

set_option maxHeartbeats 400000 in
/-- slices.SortedFunc(maps.Keys(m), cmp.Compare): where the entries' keys rise as they lie, just these. -/
theorem sorted_keys (b : Nat) (l : List (Int × Value)) (w : World) (h : IMap w b l) (hwf : ∀ p ∈ l, (Lit.int .i64 p.1).wf = true) (hlen : l.length ≤ 1000000) (hrise : (l.map (·.1)).Pairwise (· < ·)) :
    Calls Try.prog 49 #[.func (.func 58) #[] #[.pointer (some ⟨w.heap.size, 0, none⟩)], .func (.func 44) #[] #[]] (w.alloc (.cells #[.map (some b)] 67)) fun e w' => ∃ (a : Option Addr) (n c : Nat), e = .returned (.slice a n c) ∧
      w'.ownsRow (w.heap.size + 1) 3 1 (.slice a n c) l.length ((l.map (·.1)).map encZ) ∧ n = l.length ∧ Below (w.heap.size + 1) (w.alloc (.cells #[.map (some b)] 67)) w' := by
  have Hc := hide (collect_keys b l w h hwf hlen)
  have Hr := hide hrise
  have hlt := h.lt
  clear h hwf hrise
  go_enter Try.func49, Try.ntmps49
  go_wp2_with fail
  refine Hc.out.mono ?_
  rintro e W ⟨v, ss, rfl, hp, hrow, _, hb⟩
  have hsl : ss.length = l.length := by simpa using hp.length_eq
  have Hp := hide hp
  have Hb := hide hb
  have Hsl := hide hsl
  clear hp hb
  rcases hrow.2 with ⟨rfl, hz⟩ | ⟨g, cap, cur, rfl, hbase, hgb, r1, r2, r3, r4⟩
  · have hss : ss = [] := List.eq_nil_of_length_eq_zero hz
    have hl0 : l = [] := List.eq_nil_of_length_eq_zero (by omega)
    subst hss
    subst hl0
    have Hrow := hide hrow
    clear hrow hsl hz
    go_wp2_with fail
    refine (Try.slices_SortFunc_none (α := Int) none 0 _ _).mono ?_
    rintro e w' ⟨rfl, rfl⟩
    go_wp2
    go_ret
    exact ⟨none, 0, 0, rfl, by simpa using Hrow.out, rfl, Hb.out⟩
  · have hH : Holds encZ W g 0 ss.toArray := holds_of_block_i hgb (by simpa using r4)
    have hgl : g < W.heap.size := (Array.getElem?_eq_some_iff.1 hgb).1
    have cS := Try.slices_SortFunc_total encZ (by intro x; rfl) Lib.compareInt cmp_swo 44 #[] g 0 cap ss.toArray W (enters_of Try.func44 (by kernel_rfl) rfl) (fun m os dk _ x y => (Try.cmp_Compare_int x y _).mono fun _ _ ⟨he, hw⟩ => ⟨he, 0, #[], by rw [hw, grow_empty]; rfl⟩) hH hgl (by simp; omega) (fun x y h1 h2 => by
      unfold ltOf Lib.compareInt at h1 h2
      simp only [decide_eq_false_iff_not] at h1 h2
      split at h1 <;> split at h2 <;> omega)
    simp only [List.size_toArray] at cS
    have CS := hide cS
    have Hrow := hide hrow
    have Hgb := hide hgb
    have R1 := hide r1
    have R2 := hide r2
    have R3 := hide r3
    have Hbase := hide hbase
    clear cS hrow hgb r1 r2 r3 r4 hH hbase hsl
    go_wp2_with fail
    refine CS.out.mono ?_
    rintro e w' ⟨rfl, nn, os, rfl⟩
    have heq : ss.mergeSort (fun x y => !(ltOf Lib.compareInt) y x) = l.map (·.1) := by
      have hfun : (fun x y : Int => !(ltOf Lib.compareInt) y x) = fun x y => decide (x ≤ y) := by
        funext x y
        unfold ltOf Lib.compareInt
        by_cases h1 : y < x
        · simp [h1, Int.not_le.2 h1]
        · by_cases h2 : x < y
          · simp [h1, h2, Int.le_of_lt h2]
          · simp [h1, h2]; omega
      rw [hfun]
      refine sorted_unique ((Hp.out.symm.trans (List.mergeSort_perm _ _).symm)) Hr.out ?_
      have := List.pairwise_mergeSort (le := fun x y : Int => decide (x ≤ y)) (fun a b c h1 h2 => by simp at *; omega) (fun a b => by simp; omega) ss
      exact this.imp fun h => by simpa using h
    have Heq := hide heq
    have hown := ownsRow_sorted_i (n := nn) (os := os) (ss := ss) (ts := ss.mergeSort (fun x y => !(ltOf Lib.compareInt) y x)) (by simp) Hbase.out Hgb.out R1.out R2.out R3.out
    have hgrow := grownBy_sorted_i (w := W) (g := g) (n := nn) (os := os) (ss.mergeSort (fun x y => !(ltOf Lib.compareInt) y x)).toArray
    obtain ⟨W', hW'⟩ : ∃ W', sortWorld encZ W g 0 nn (ss.toArray.toList.mergeSort fun x y => !(ltOf Lib.compareInt) y x).toArray os = W' := ⟨_, rfl⟩
    rw [hW']
    have hown2 : W'.ownsRow (w.heap.size + 1) 3 1 (.slice (some ⟨g, 0, none⟩) ss.length cap) ss.length ((l.map (·.1)).map encZ) := by
      rw [← hW', ← heq]
      exact hown
    have hgrow2 : W.grownBy W' (some g) := by rw [← hW']; exact hgrow
    have Hown := hide hown2
    have Hgrow := hide hgrow2
    clear heq hown hgrow hown2 hgrow2 hW'
    go_wp2
    go_ret
    refine ⟨some ⟨g, 0, none⟩, ss.length, cap, rfl, ?_, Hsl.out, Hb.out.grown Hgrow.out (by simpa using Hb.out.size) fun k e => by cases e; exact Hbase.out⟩
    rw [← Hsl.out]
    exact Hown.out

end Go.Proofs.Yteealadflekffaa
