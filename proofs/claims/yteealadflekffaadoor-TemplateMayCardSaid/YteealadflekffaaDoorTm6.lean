/- template.Name: which texts are names of templates and slots. -/
import Derived.Test.YteealadflekffaaDoorTm5
namespace Go.Proofs.YteealadflekffaaDoor
open Go Go.RowKit Go.Lib Go.Shelf Go.Maps Go.WideMaps

attribute [local go_sem] Oper.semAt_some

/-- The words that are no names. -/
abbrev keptS : ByteArray := ⟨#[116, 114, 117, 101, 32, 102, 97, 108, 115, 101, 32, 110, 117, 108, 108, 32, 97, 110, 100, 32, 111, 114, 32, 110, 111, 116, 32, 105, 102, 32, 97, 98, 115, 32, 109, 105, 110, 32, 109, 97, 120, 32, 109, 111, 100, 32, 108, 101, 110, 103, 116, 104, 32, 117, 112, 112, 101, 114, 32, 99, 111, 110, 116, 97, 105, 110, 115, 32, 115, 116, 97, 114, 116, 115, 32, 116, 101, 109, 112, 108, 97, 116, 101, 32, 114, 117, 108, 101, 32, 119, 104, 101, 110, 32, 116, 104, 101, 110, 32, 101, 110, 100, 32, 101, 120, 105, 115, 116, 115, 32, 116, 101, 115, 116, 32, 97, 115, 115, 101, 114, 116, 32, 108, 111, 103, 105, 99, 97, 108, 32, 109, 111, 100, 105, 102, 121, 32, 114, 101, 116, 114, 97, 99, 116, 32, 104, 97, 108, 116, 32, 116, 97, 98, 108, 101, 32, 105, 110, 32, 111, 117, 116, 32, 114, 111, 119]⟩
theorem law9 : Keyed Tryd.prog 9 := string_keyed Tryd.underlying9
theorem zeroU : ∀ w : World, (zeroValue 57).run Tryd.prog w = .ok (.agg #[]) w := fun w => by kernel_rfl

theorem fseq_call (F : Fence) (n : Nat) (h32 : F.fn 32) (hro : F.round = none) (s : ByteArray) (w : World) :
    CallsIn F n Tryd.prog 32 #[.string s] w fun e w' => e = .returned (.func (.func 47) #[] #[.pointer (some ⟨w.heap.size, 0, none⟩)]) ∧ w' = w.alloc (.cells #[.string s] 9) := by
  refine callsIn_of_wp Tryd.func32 rfl h32 ?_ hro
  simp only [Tryd.ntmps32, List.size_toArray, List.length_cons, List.length_nil, Nat.reduceAdd, Nat.reduceSub, Array.replicate_succ, Array.replicate_zero, List.push_toArray, List.append_toArray, List.nil_append, List.cons_append]
  gi_wp2
  go_ret
  exact ⟨rfl, rfl⟩

/-- The words of the set that is built. -/
def setD {H : Type} (l : List Str) : DataW H := setOf (.agg []) (l.map fun x => .string x.1.data.toList)
theorem setD_snoc {H : Type} (l : List Str) (x : Str) : setD (H := H) (l ++ [x]) = (setD l).put (.string x.1.data.toList) (.agg []) := by
  unfold setD
  rw [List.map_append, List.map_singleton, setOf_snoc]
/-- Is it one of the words that are no names? -/
def keptB (s : ByteArray) : Bool := (Lib.fields keptS.data.toList).contains s.data.toList
theorem setD_has {H : Type} (l : List Str) (s : ByteArray) (h : wordsOf l = Lib.fields keptS.data.toList) : Maps.has (setD (H := H) l) (.string s.data.toList) = keptB s := by
  unfold setD keptB
  rw [has_setOf _ _ _ (fun x hx => by obtain ⟨y, _, rfl⟩ := List.mem_map.1 hx; exact trivial), ← h, wordsOf]
  rw [List.any_map]
  rw [Bool.eq_iff_iff, List.any_eq_true, List.contains_iff_mem, List.mem_map]
  simp [Lit.sameKey]

theorem cell_new_c (W : World) (v : Value) (t : TypeId) : (W.alloc (.cells #[v] t)).cell? ⟨W.heap.size, 0, none⟩ = some v := cell1 (heap_new W _)
theorem cell_alloc_c {W : World} {a : Addr} {v : Value} (o : Obj) (h : W.cell? a = some v) : (W.alloc o).cell? a = some v := cell_kept h (World.grownBy_alloc W o none) (fun r e => by cases e)

/-- Is it a name? -/
def tnameB (s : ByteArray) : Bool := !keptB s && nameB s

set_option maxRecDepth 100000 in
theorem kept_ascii : ∀ k (h : k < keptS.size), keptS[k].toNat < 128 := by
  decide +kernel

set_option maxRecDepth 100000 in
set_option maxHeartbeats 4000000 in
theorem name_any (s : ByteArray) (hs : s.size ≤ 9223372036854775807) (w : World) (hT : Tab w) :
    Calls Tryd.prog 13 #[.string s] w fun e W' => e = .returned (.bool (tnameB s)) ∧ Below w.heap.size w W' := by
  have hmm := @run_makeMap Tryd.prog
  have Hmay := hide fun W => may_any ⟨5, 0, s⟩ hs W
  have HS := hide hs
  clear hs
  refine (callsIn_wide (n := 5)).1 ?_
  refine callsIn_of_wp_marks Tryd.func13 rfl trivial ?_ rfl
  simp only [Tryd.ntmps13, List.size_toArray, List.length_cons, List.length_nil, Nat.reduceAdd, Nat.reduceSub, Array.replicate_succ, Array.replicate_zero, List.push_toArray, List.append_toArray, List.nil_append, List.cons_append]
  gi_wp2
  refine ⟨trivial, ?_⟩
  refine (fseq_call Fence.wide _ trivial rfl keptS _).mono ?_
  rintro e w' ⟨rfl, rfl⟩
  gi_wp2
  have hm0 := World.ownsMap_made w Tryd.prog 9 (unitElem (H := Unit))
  have cS := cell_new_c (w.alloc (.map #[] 0)) (.map (some w.heap.size)) 53
  have cN := cell_new_c ((w.alloc (.map #[] 0)).alloc (.cells #[.map (some w.heap.size)] 53)) (.string keptS) 9
  simp only [World.size_alloc] at cS cN
  have hB0 : Below w.heap.size w (((w.alloc (.map #[] 0)).alloc (.cells #[.map (some w.heap.size)] 53)).alloc (.cells #[.string keptS] 9)) := (((Below.refl _ w).alloc (Nat.le_refl _) _).alloc (by simp) _).alloc (by simp; omega) _
  have hT0 := hT.below hB0
  have hlt0 := hT.2
  refine wpIn_rangeFunc_ownG rfl (by omega) (gf := 47) (lb := #[.pointer (some ⟨w.heap.size + 1 + 1, 0, none⟩)]) rfl trivial (enters_of Tryd.func47 (by kernel_rfl) rfl)
    (encs := fun x : Str => #[.string x.1]) (Kp := KeepB [0, w.heap.size + 1 + 1]) (S := fun ys => wordsOf ys = Lib.fields keptS.data.toList) (Sp := fun _ => True) (N := (Lib.fields keptS.data.toList).length)
    (w0 := ((w.alloc (.map #[] 0)).alloc (.cells #[.map (some w.heap.size)] 53)).alloc (.cells #[.string keptS] 9))
    (fun l J Jx W hW _ _ hY h0 => fseq_in Fence.wide _ trivial rfl (by omega) l (w.heap.size + 1 + 1) keptS (by decide) kept_ascii J Jx hY W (bcell hW cN) (hT0.below hW) h0)
    keepB_t (keepB_b (by simp)) (Below.refl _ _) (fun _ => rfl)
    (fun pre W => (W.cell? ⟨w.heap.size + 1, 0, none⟩ = some (.map (some w.heap.size)) ∧ W.cell? ⟨w.heap.size + 1 + 1, 0, none⟩ = some (.string keptS) ∧ W.ownsMap Tryd.prog 9 (unitElem (H := Unit)) w.heap.size pre.length (setD pre)) ∧ Below w.heap.size w W)
    (fun _ _ _ => False)
    (OwnFrom.and (fun s A B row hs hg hr => ⟨cell_kept hs.1 hg (fun r e => (hr r e).2), cell_kept hs.2.1 hg (fun r e => (hr r e).2), hs.2.2.kept hg (fun e => by have := (hr _ e.symm).1; simp at this; omega)⟩) (ownFrom_below (Nat.le_refl _) (by simp; omega)))
    (fun _ _ _ _ _ hs _ _ => hs)
    ⟨⟨cell_alloc_c _ cS, cN, (hm0.alloc _).alloc _⟩, hB0⟩
    (fun x => { tmps := #[.string s, undef, .bool false, .pointer (some ⟨w.heap.size + 1, 0, none⟩), .string x.1, undef, undef, .map (some w.heap.size), .func (.func 47) #[] #[.pointer (some ⟨w.heap.size + 1 + 1, 0, none⟩)], .string x.1, undef, undef, undef, undef, undef, undef, undef, undef, undef, undef, undef, undef, undef, undef, undef, undef], defers := [] }) ?assign ?body ?done ?stop
  case assign =>
    intro l x W K hK
    gi_wp2
    exact hK
  case body =>
    rintro l pre x W ⟨⟨hc, hcs, hown⟩, hB⟩ hlt
    have hlen : (Lib.fields keptS.data.toList).length ≤ 100 := by decide +kernel
    have hxs := x.2
    have hnm : pre.length < maxLen := by unfold maxLen; omega
    have hky := keyOf_string_mk Tryd.underlying9 hxs
    gi_wp2_with (gi_at_mapUpdate; (refine wpListIn_mapUpdate_own _ rfl _ _ _ 53 rfl 9 57 law9 Tryd.underlying53 _ w.heap.size pre.length _ rfl hown hnm _ _ _ rfl rfl hky _ [] unitElem_mk ?_); intro w1 hown1 hgrow1)
    obtain ⟨es, ck, hh, _⟩ := hown
    have hlts := lt_of_cell hcs
    simp only at hlts
    exact ⟨KeepsFrom.of_grownBy hgrow1 (fun j e => by cases e; first | omega | (simp; done) | (simp; omega)), fun k hk => by
        simp only [List.mem_cons, List.not_mem_nil, or_false] at hk
        exact hgrow1.block k (by omega) (by intro e; cases e; omega),
      ⟨cell_kept hc hgrow1 (fun r e => by cases e; exact ⟨_, hh, rfl⟩), cell_kept hcs hgrow1 (fun r e => by cases e; exact ⟨_, hh, rfl⟩), by rw [setD_snoc, List.length_append]; exact hown1⟩, hB.grown hgrow1 hB.size (fun k e => by cases e; exact Nat.le_refl _)⟩
  case done =>
    rintro D ys W hD hys ⟨⟨hc, _, hown⟩, hB⟩ hK
    have hhas := setD_has (H := Unit) ys s hys
    have hks := keyOf_string_mk Tryd.underlying9 (show s.size ≤ maxLen from HS.out)
    cases hk : keptB s <;> rw [hk] at hhas
    · gi_wp2_with (gi_at_lookup; refine wpListIn_lookup_own_unit _ rfl _ _ 53 rfl 9 57 law9 Tryd.underlying53 (zeroU _) w.heap.size ys.length _ rfl hown _ _ rfl hks ?_)
      have hm : mayB ⟨5, 0, s⟩ = tnameB s := by simp [tnameB, hk, mayB]
      have Hm2 := Hmay.out
      rw [hm] at Hm2
      refine ⟨trivial, ?_⟩
      refine (callsIn_wide.2 (Hm2 _)).mono ?_
      rintro e W3 ⟨rfl, hb3⟩
      have HB3 := hide ((hB.alloc hB.size (.cells #[] 57)).trans (hb3.mono (by have := hB.size; simp; omega)))
      have hK3 : W3.heap[D]? = some (.deferred (some [])) := (hb3.block D (by have := lt_of_block hK; simp; omega)).trans ((Below.heap_alloc _ _ _ (lt_of_block hK)).trans hK)
      have Hb3 := hide hb3
      have Hlt := hide (lt_of_block hK)
      clear hb3
      gi_wp2
      refine ⟨by simp, .inl ⟨_, _, rfl, run_takeDeferred hK3, ?_⟩⟩
      exact ⟨_, results_tmp rfl _ _ _, rfl, HB3.out.trans (belowK_b (w := w) (Nat.le_refl _) W3 D _ _ (by simp at hD; omega) hK3 rfl rfl)⟩
    · gi_wp2_with (gi_at_lookup; refine wpListIn_lookup_own_unit _ rfl _ _ 53 rfl 9 57 law9 Tryd.underlying53 (zeroU _) w.heap.size ys.length _ rfl hown _ _ rfl hks ?_)
      refine ⟨trivial, ?_⟩
      gi_wp2
      refine ⟨by simp, .inl ⟨_, _, rfl, run_takeDeferred ((Below.heap_alloc _ _ _ (lt_of_block hK)).trans hK), ?_⟩⟩
      have hm : tnameB s = false := by simp [tnameB, hk]
      rw [hm]
      exact ⟨_, results_tmp rfl _ _ _, rfl, (hB.alloc hB.size (.cells #[] 57)).trans (belowK_b (w := w) (Nat.le_refl _) _ D _ _ (by simp at hD; omega) ((Below.heap_alloc _ _ _ (lt_of_block hK)).trans hK) rfl rfl)⟩
  case stop =>
    rintro D c pre W _ _ h _
    exact h.elim
end Go.Proofs.YteealadflekffaaDoor
