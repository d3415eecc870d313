/- Facts: the book's ids, rising. Drop. -/
import Derived.Test.YtmcajoccfbebiaaTr6
import Derived.Test.YtmcajoccfbebiaaIter
import Derived.Shelf.SlIterI.Sorted
namespace Go.Proofs.Ytmcajoccfbebiaa
open Go Go.RowKit Go.MapKept Go.Sort Go.Shelf Go.Maps

/-- Every value reads as true: nothing is asked of values. -/
def anyR (_ : Value) : Option (DataW Unit × List MemPlace) := some (.lit (.bool true), [])

theorem imap_owns {w : World} {b : Nat} {l : List (Int × Value)} (h : IMap w b l) (hwf : ∀ p ∈ l, (Lit.int .i64 p.1).wf = true) (hlen : l.length ≤ 1000000) :
    ∃ D : DataW Unit, w.ownsMap Try.prog 3 anyR b l.length D ∧ (intKeys D).Perm (l.map (·.1)) ∧ Maps.size D = l.length := by
  obtain ⟨es, c, h1, h2, h3⟩ := h
  have hsz := IMap.size h3
  have hrd : ∀ x ∈ es.toList, ∃ p ∈ l, x.key = .int .i64 p.1 ∧ WideElems.rd Try.prog 3 anyR x = some (.int .i64 p.1, .lit (.bool true)) := by
    intro x hx
    obtain ⟨p, hp, hk, hv⟩ := entry_at h3 hx
    refine ⟨p, hp, hk, ?_⟩
    simp [WideElems.rd, hk, keyOf, Try.underlying3, mapKey, hwf p hp, anyR]
  have hrg : es.toList.map (WideElems.rg Try.prog 3 anyR) = l.map (fun p => (Lit.int .i64 p.1, DataW.lit (.bool true))) := by
    have : es.toList.map (WideElems.rg Try.prog 3 anyR) = (es.toList.map (fun e => (e.key, e.val))).map (fun q => match q.1 with | .int .i64 n => (Lit.int .i64 n, DataW.lit (.bool true)) | _ => (Lit.bool false, DataW.nil)) := by
      rw [List.map_map]
      refine List.map_congr_left fun x hx => ?_
      obtain ⟨p, hp, hk, hr⟩ := hrd x hx
      simp [WideElems.rg, hr, hk]
    rw [this, h3, List.map_map]
    rfl
  refine ⟨.map ((es.toList.map (WideElems.rg Try.prog 3 anyR)).foldr DataW.insert []), ⟨es, c, h1, ⟨by unfold maxLen; omega, h2, fun x hx => ?_⟩, by omega, rfl⟩, ?_, ?_⟩
  · obtain ⟨p, _, _, hr⟩ := hrd x hx
    exact ⟨_, hr⟩
  · rw [hrg]
    unfold intKeys
    refine ((WideShapes.sorted_perm _).map _).trans ?_
    rw [List.map_map]
    exact List.Perm.of_eq (List.map_congr_left fun p _ => rfl)
  · simp [Maps.size, length_sorted, hsz]

theorem collect_keys (b : Nat) (l : List (Int × Value)) (w : World) (h : IMap w b l) (hwf : ∀ p ∈ l, (Lit.int .i64 p.1).wf = true) (hlen : l.length ≤ 1000000) :
    Calls Try.prog 90 #[.func (.func 92) #[] #[.pointer (some ⟨w.heap.size, 0, none⟩)]] (w.alloc (.cells #[.map (some b)] 86)) fun e w' => ∃ (v : Value) (ss : List Int), e = .returned v ∧ ss.Perm (l.map (·.1)) ∧
      w'.ownsRow (w.heap.size + 1) 3 1 v ss.length (ss.map encZ) ∧ (v = .slice none 0 0 ↔ ss = []) ∧ Below (w.heap.size + 1) (w.alloc (.cells #[.map (some b)] 86)) w' := by
  obtain ⟨D, hown, hperm, hsize⟩ := imap_owns h hwf hlen
  have hbl := h.lt
  have hseq : SeqGives Fence.wide 2 Try.prog 92 #[.pointer (some ⟨w.heap.size, 0, none⟩)] encZ (fun ss => ss.Perm (intKeys D)) (Maps.size D) (w.alloc (.cells #[.map (some b)] 86)) :=
    AnyZI.keys_gives (ρ := Try.keys64_ren) { Try.keys64 with } Fence.wide _ trivial rfl (by omega) w.heap.size b l.length D _ (by simp) (by simp) (by
      obtain ⟨es, clock, hb, Ft, hs, hD⟩ := hown
      exact ⟨es, clock, (Below.heap_alloc _ _ b hbl).trans hb, Ft, hs, hD⟩)
  have hc := AnyZI.collect_in Try.collect90 Fence.wide 4 trivial trivial rfl (by omega) 92 #[.pointer (some ⟨w.heap.size, 0, none⟩)] trivial (enters_of Try.func92 (by kernel_rfl) rfl) _ _ (by rw [hsize]; unfold maxLen; omega) (by rw [hsize]; omega) _ hseq
  refine (callsIn_wide.1 hc).mono ?_
  rintro e w' ⟨v, ss, rfl, hp, hrow, hnil, hb⟩
  simp only [World.size_alloc] at hrow hb
  exact ⟨v, ss, rfl, hp.trans hperm, hrow, hnil, hb⟩

theorem keys_any (b : Nat) (w : World) : Calls Try.prog 64 #[.map (some b)] w fun e w' =>
    e = .returned (.func (.func 92) #[] #[.pointer (some ⟨w.heap.size, 0, none⟩)]) ∧ w' = w.alloc (.cells #[.map (some b)] 86) :=
  callsIn_wide.1 (AnyZI.keys_in Try.keys64 Fence.wide 5 trivial rfl (some b) w)

/-- Ints, rising. -/
def rise (l : List Int) : List Int := l.mergeSort fun x y => decide (x ≤ y)
theorem rise_perm (l : List Int) : (rise l).Perm l := List.mergeSort_perm _ _
theorem rise_sorted (l : List Int) : (rise l).Pairwise (· ≤ ·) := by
  have := List.pairwise_mergeSort (le := fun x y : Int => decide (x ≤ y)) (fun a b c h1 h2 => by simp at *; omega) (fun a b => by simp; omega) l
  exact this.imp fun h => by simpa using h
theorem rise_unique {a b : List Int} (hp : a.Perm b) (ha : a.Pairwise (· ≤ ·)) : a = rise b :=
  List.Perm.eq_of_pairwise (le := (· ≤ ·)) (fun _ _ _ _ h1 h2 => Int.le_antisymm h1 h2) ha (rise_sorted b) (hp.trans (rise_perm b).symm)
theorem rise_congr {a b : List Int} (hp : a.Perm b) : rise a = rise b := rise_unique ((rise_perm a).trans hp) (rise_sorted a)
/-- The book's ids, rising. -/
def idsS (M : List Sp) : List Int := rise (M.map Sp.id)

theorem keys_ids (M : List Sp) : (M.map Sp.pair).map (·.1) = M.map Sp.id := by rw [List.map_map]; rfl

set_option maxHeartbeats 400000 in
theorem facts_any (b m : Nat) (M : List Sp) (w : World) (h : BookIs w b m M) :
    Calls Try.prog 31 #[.pointer (some ⟨b, 0, none⟩)] w fun e w' => ∃ v, e = .returned v ∧ w'.ownsRow w.heap.size 3 1 v (idsS M).length ((idsS M).map (.int .i64)) ∧ Below w.heap.size w w' := by
  have c0 := (cells1b h.blk).1
  have hlen := h.len
  have Hc := hide (collect_keys m (M.map Sp.pair) w h.map (fun p hp => by obtain ⟨q, hq, rfl⟩ := List.mem_map.1 hp; exact h.wf q hq) (by simp; omega))
  have hsz : (w.alloc (.cells #[.map (some m)] 86)).heap.size = w.heap.size + 1 := by simp
  have HB1 := hide (show Below w.heap.size w (w.alloc (.cells #[.map (some m)] 86)) from ((Only.refl [] w).alloc _).below)
  obtain ⟨W, hW⟩ : ∃ W, w.alloc (.cells #[.map (some m)] 86) = W := ⟨_, rfl⟩
  rw [hW] at Hc HB1 hsz
  have hso : Calls Try.prog 63 #[.func (.func 92) #[] #[.pointer (some ⟨w.heap.size, 0, none⟩)]] W fun e w' => ∃ v, e = .returned v ∧ w'.ownsRow w.heap.size 3 1 v (idsS M).length ((idsS M).map (.int .i64)) ∧ Below w.heap.size w w' := by
    clear h c0 hW
    go_enter Try.func63, Try.ntmps63
    go_wp2_with fail
    (with_reducible refine Hc.out.mono ?_)
    rintro e V ⟨v, ss, rfl, hp, hrow, _, hb⟩
    rw [keys_ids] at hp
    have hsl : ss.length = M.length := by have := hp.length_eq; simpa using this
    have hbV := HB1.out.trans (hb.mono (by omega))
    have Hs := hide (nsort (w.heap.size + 1) v ss V (by omega) hrow)
    have Hids : Hid (idsS M = rise ss) := hide (rise_congr hp.symm)
    have Hrow := hide hrow
    have HbV := hide hbV
    obtain ⟨va, vc, rfl⟩ := row_form hrow
    clear hp hrow hb Hc hbV hsl
    go_wp2_with fail
    (with_reducible refine Hs.out.mono ?_)
    rintro e V2 ⟨rfl, hr2, hg2⟩
    have HR2 : Hid (V2.ownsRow w.heap.size 3 1 (.slice va ss.length vc) (idsS M).length ((idsS M).map (.int .i64))) := hide (by
      have e : (idsS M).length = ss.length := by rw [Hids.out]; exact (rise_perm ss).length_eq
      rw [e, Hids.out]
      exact owns_base hr2 (by omega))
    have HB2 := hide (HbV.out.grown hg2 HbV.out.size (fun k e => by have := (Hrow.out.lt k e).1; omega))
    clear hr2 hg2
    go_wp2
    go_ret
    exact ⟨_, rfl, HR2.out, HB2.out⟩
  have Hso := hide hso
  have HW := hide hW
  clear h hso hW
  go_enter Try.func31, Try.ntmps31
  go_wp2_with (first
    | (go_at_call 53; refine (none_some b m _ c0).mono ?_; rintro e w' ⟨rfl, rfl⟩)
    | (go_at_call 64; refine (keys_any m _).mono ?_; rintro e w' ⟨rfl, hw⟩; rw [hw, HW.out]; clear hw))
  (with_reducible refine Hso.out.mono ?_)
  rintro e V ⟨v, rfl, hr, hb⟩
  have HR := hide hr
  have HB := hide hb
  clear hr hb
  go_wp2
  go_ret
  exact ⟨_, rfl, HR.out, HB.out⟩

set_option maxRecDepth 100000 in
set_option maxHeartbeats 400000 in
theorem drop_any (b m : Nat) (M : List Sp) (id : Int) (w : World) (h : BookIs w b m M) :
    Calls Try.prog 33 #[.pointer (some ⟨b, 0, none⟩), .int .i64 id] w fun e w' => e = .returned (.bool (getS M id).isSome) ∧ BookIs w' b m (dropS M id) ∧ Only [m] w w' := by
  have c0 := (cells1b h.blk).1
  have hblt := lt_of_heap h.blk
  have hlook := run_lookup (P := Try.prog) (t := 86) Try.underlying86 Try.underlying3 h.map (zero_sup _) id
  obtain ⟨gp, ga, gn, gc, ok, hlk, hok⟩ : ∃ gp ga gn gc ok, looked (.agg #[.bool false, .slice none 0 0]) (look (M.map Sp.pair) id) = .tuple #[.agg #[.bool gp, .slice ga gn gc], .bool ok] ∧ ok = (getS M id).isSome := by
    rw [look_get]
    cases hg : getS M id with
    | none => exact ⟨false, none, 0, 0, false, rfl, rfl⟩
    | some p =>
      have hp : p ∈ M := List.mem_of_find?_eq_some hg
      obtain ⟨a, c, hv⟩ := (h.js p hp).form
      exact ⟨p.plain, a, p.js.length, c, true, by simp [looked, Sp.val, hv], rfl⟩
  rw [hlk] at hlook
  rw [← hok]
  obtain ⟨W, hW⟩ : ∃ W, w.alloc (Obj.cells #[.bool gp, .slice ga gn gc] 90) = W := ⟨_, rfl⟩
  have hb1 : Below w.heap.size w W := by rw [← hW]; exact ((Only.refl [] w).alloc _).below
  have hB1 := h.below hb1
  obtain ⟨w1, hrun, hm1, ho1, hsz⟩ := run_delete (P := Try.prog) (t := 86) Try.underlying86 Try.underlying3 hB1.map id
  have c1 := (cells1b hB1.blk).1
  have hfin : BookIs w1 b m (dropS M id) := by
    have hk := KeepsCells.map hB1.map ho1
    refine ⟨(ho1.block b (lt_of_heap hB1.blk) (by simpa using hB1.ne)).trans hB1.blk, by rw [← drop_pairs]; exact hm1, fun p hp => (hB1.js p (List.mem_filter.1 hp).1).keeps hk, fun p hp => h.wf p (List.mem_filter.1 hp).1, ?_⟩
    have := List.length_filter_le (fun p : Sp => p.id != id) M
    have := h.len
    unfold dropS
    omega
  have HF := hide hfin
  have HO := hide ((Only.of_below hb1 [m]).trans ho1)
  have HW := hide hW
  clear h hlk hok hb1 hB1 hm1 ho1 hsz hfin hW
  go_enter Try.func33, Try.ntmps33
  go_upto_region 4 with (go_at_call 53; refine (none_some b m _ c0).mono ?_; rintro e w' ⟨rfl, rfl⟩)
  rw [HW.out]
  clear c0 hlook
  go_wp2
  go_ret
  exact ⟨rfl, HF.out, HO.out⟩
end Go.Proofs.Ytmcajoccfbebiaa
