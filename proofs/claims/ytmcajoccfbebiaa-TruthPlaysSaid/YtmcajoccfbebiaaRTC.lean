/- witanref29's Book: Drop. -/
import Derived.Test.YtmcajoccfbebiaaRT9
namespace Go.Proofs.Ytmcajoccfbebiaa
open Go Go.RowKit Go.MapKept Go.Sort

theorem size_row (w : World) : (sizeOf (Try.prog.elem 68)).run Try.prog w = .ok 3 w := by kernel_rfl
theorem under_row : Try.prog.underlying 68 = some (.slice (Try.prog.elem 68)) := by kernel_rfl

theorem drop_at {L : List Sp} (h : (L.map Sp.id).Pairwise (· < ·)) {k : Nat} (hk : k < L.length) {id : Int} (hid : L[k].id = id) : RDrop L (L.take k ++ L.drop (k + 1)) id := by
  have hp := List.pairwise_iff_getElem.1 h
  simp only [List.length_map, List.getElem_map] at hp
  have hs : (L.take k ++ L.drop (k + 1)).Sublist L := by
    conv => rhs; rw [← List.take_append_drop k L]
    refine List.Sublist.append (List.Sublist.refl _) ?_
    rw [List.drop_eq_getElem_cons hk]
    exact List.sublist_cons_self _ _
  refine ⟨h.sublist (hs.map _), fun p => ⟨fun hm => ⟨hs.subset hm, fun e => ?_⟩, fun ⟨hm, hne⟩ => ?_⟩, hs.length_le⟩
  · rcases List.mem_append.1 hm with hm | hm
    · obtain ⟨i, hi, rfl⟩ := List.getElem_of_mem hm
      rw [List.length_take] at hi
      rw [List.getElem_take, ← hid] at e
      have := hp i k (by omega) hk (by omega)
      omega
    · obtain ⟨i, hi, rfl⟩ := List.getElem_of_mem hm
      rw [List.length_drop] at hi
      rw [List.getElem_drop, ← hid] at e
      have := hp k (k + 1 + i) hk (by omega) (by omega)
      omega
  · obtain ⟨i, hi, rfl⟩ := List.getElem_of_mem hm
    rcases Nat.lt_trichotomy i k with q | q | q
    · exact List.mem_append_left _ (List.mem_iff_getElem.2 ⟨i, by rw [List.length_take]; omega, by rw [List.getElem_take]⟩)
    · subst q
      exact absurd hid hne
    · refine List.mem_append_right _ (List.mem_iff_getElem.2 ⟨i - (k + 1), by rw [List.length_drop]; omega, ?_⟩)
      rw [List.getElem_drop]
      congr 1
      omega
theorem rflat_one' {B : Nat} {w : World} {L T : List Sp} (h : ∀ p ∈ L, p.js.length ≤ 1000 ∧ OfIs B w p.v p.js) (hT : ∀ p ∈ T, p ∈ L) : ∀ u ∈ rflat T, u.oneCell' = true := rflat_one T fun p hp => h p (hT p hp)

set_option maxRecDepth 100000 in
set_option maxHeartbeats 4000000 in
theorem rdrop_any (B r : Nat) (v : Value) (L : List Sp) (id : Int) (w : World) (h : RefB B w r v L) :
    Calls Try.prog 73 #[.pointer (some ⟨r, 0, none⟩), .int .i64 id] w fun e w' => e = .returned (.bool (L.any fun p => p.id == id)) ∧
      (∃ v' L', RefB B w' r v' L' ∧ RDrop L L' id ∧ (∀ A : Nat → Prop, (∀ k, w.heap.size ≤ k → A k) → AvV A v → AvB A L → AvV A v' ∧ AvB A L')) ∧ ROnly B r w w' := by
  obtain ⟨va, vc, rfl⟩ := h.form
  have c0 := (cells1b h.blk).1
  have hlen := h.len
  have hrl := lt_of_heap h.blk
  have hB := h.hB
  have hf := rfind_any B r _ L id w h
  have Hf := hide hf
  have H := hide h
  clear h hf
  go_enter Try.func73, Try.ntmps73
  go_wp2_with fail
  (with_reducible refine Hf.out.mono ?_)
  rintro e w' ⟨⟨k, hk, rfl, hid⟩ | ⟨rfl, hno⟩, rfl⟩
  · have hyes : (L.any fun p => p.id == id) = true := List.any_eq_true.2 ⟨L[k], List.getElem_mem hk, by simpa using hid⟩
    have hd := drop_at H.out.asc hk hid
    have Hyes := hide hyes
    have Hd := hide hd
    have hk0 : ¬ (k : Int) < 0 := by omega
    have hone1 := rflat_one' (T := L.take k) H.out.js (fun p hp => List.mem_of_mem_take hp)
    have hone2 := rflat_one' (T := L.drop (k + 1)) H.out.js (fun p hp => List.mem_of_mem_drop hp)
    obtain ⟨hcut1, hsrc1⟩ := cut_upto under_row H.out.row (Nat.le_of_lt hk)
    obtain ⟨ya, yc, hcut2, hsrc2⟩ := cut_from under_row H.out.row (show k + 1 ≤ L.length from hk)
    have hrun1 := fun wx => hcut1 wx 3 (size_row wx)
    have hrun2 : ∀ wx, (Instr.slice 68 (.slice va L.length vc) (some (.int .i64 ((k : Int) + 1))) none none).run Try.prog wx = .ok (.slice ya (L.length - (k + 1)) yc) wx := fun wx => by simpa using hcut2 wx (size_row wx)
    rw [rflat_take] at hsrc1
    rw [rflat_drop] at hsrc2
    have hT : (L.take k).length = k := by rw [List.length_take]; omega
    have hD : (L.drop (k + 1)).length = L.length - (k + 1) := by rw [List.length_drop]
    have hjT : ∀ p ∈ L.take k ++ L.drop (k + 1), p ∈ L := fun p hp => ((hd.mem p).1 hp).1
    obtain ⟨T, hTe⟩ : ∃ T, L.take k = T := ⟨_, rfl⟩
    obtain ⟨D, hDe⟩ : ∃ D, L.drop (k + 1) = D := ⟨_, rfl⟩
    rw [hTe] at hsrc1 hone1 hT
    rw [hDe] at hsrc2 hone2 hD
    rw [hTe, hDe] at hd Hd hjT
    obtain ⟨i0, hi, hz0, hz1, hz2⟩ := rinfo_parts
    have Hi := hide hi
    have Hz0 := hide hz0
    have Hz1 := hide hz1
    have Hz2 := hide hz2
    have hbe : Below w.heap.size w (w.drew.alloc (Obj.cells #[] 111)) := ((Only.drew (Only.refl [] w)).alloc _).below
    have He0 := hide (own_empty1 (B := w.heap.size) 3 (heap_alloc0 w.drew (Obj.cells #[] 111)) (Nat.le_refl _))
    have Hsrc1 := hide (SrcN.keeps hsrc1 (KeepsCells.below hbe))
    have Hsrc2 := hide hsrc2
    have Hone1 := hide hone1
    have Hone2 := hide hone2
    have HT := hide hT
    have HD := hide hD
    have HjT := hide hjT
    have Hbe := hide hbe
    have hkl : k ≤ 1000 := by omega
    have hkw : IntKind.i64.wrap ((k : Int) + 1) = (k : Int) + 1 := IntWalk.i64_in _ ⟨by omega, by omega⟩
    have hdl : L.length - (k + 1) ≤ 1000 := by omega
    have hszA : w.heap.size ≤ (w.alloc (Obj.cells #[] 111)).drew.heap.size := by show w.heap.size ≤ (w.alloc _).heap.size; simp
    have c0e := (cells1b (H.out.below hbe).blk).1
    clear hyes hd hsrc1 hsrc2 hone1 hone2 hT hD hjT hi hz0 hz1 hz2 hbe hcut1 hcut2 hTe hDe hid
    go_wp2_with fail
    go_region_law (first
      | (refine step_append_any rfl (.tmp 12) (.tmp 18) 68 rfl w.heap.size 111 i0 (.agg #[.int .i64 0, .bool false, .slice none 0 0]) 3 40 Try.underlying68 Hi.out Hz0.out Hz1.out Hz2.out rfl (by decide) (.slice (some ⟨w.heap.size, 0, none⟩) 0 0) 0 [] ?_ He0.out (.slice va k vc) k (rflat T) ?_ Hsrc1.out Hone1.out (by unfold maxLen; omega) (by omega) hszA ?_; (focus (first | (simp [Act.eval]; done) | rfl | (simp [Act.eval, Act.put]; done))); (focus (first | (simp [Act.eval]; done) | rfl | (simp [Act.eval, Act.put]; done))); intro v2 X1 ho1 hg1; simp only [Nat.zero_add, List.nil_append] at ho1; obtain ⟨oa, oc, rfl⟩ := row_form ho1; have Ho1 := hide ho1; have HX1 := hide (Hbe.out.grown hg1 hszA (fun k e => by simp only [Value.ownBlock, Option.some.injEq] at e; omega)); have hx1 : w.heap.size ≤ X1.heap.size := HX1.out.size; have c1 := (cells1b (H.out.below HX1.out).blk).1; clear ho1 hg1)
      | (refine step_append_any rfl (.tmp 19) (.tmp 26) 68 rfl w.heap.size 111 i0 (.agg #[.int .i64 0, .bool false, .slice none 0 0]) 3 40 Try.underlying68 Hi.out Hz0.out Hz1.out Hz2.out rfl (by decide) (.slice oa k oc) k (rflat T) ?_ Ho1.out (.slice ya (L.length - (k + 1)) yc) (L.length - (k + 1)) (rflat D) ?_ (Hsrc2.out.keeps (KeepsCells.below HX1.out)) Hone2.out (by unfold maxLen; omega) (by omega) hx1 ?_; (focus (first | (simp [Act.eval]; done) | rfl | (simp [Act.eval, Act.put]; done))); (focus (first | (simp [Act.eval]; done) | rfl | (simp [Act.eval, Act.put]; done))); intro v3 X2 ho2 hg2; obtain ⟨fa, fc, rfl⟩ := row_form ho2; have Ho2 := hide ho2; have HX2 := hide (HX1.out.grown hg2 hx1 (fun k e => row_own Ho1.out k e)); obtain ⟨c2, cf⟩ := cells1b (H.out.below HX2.out).blk; clear ho2 hg2))
    all_goals
      have hset := H.out.set (v' := .slice fa (k + (L.length - (k + 1))) fc) (L' := T ++ D) HX2.out (by rw [List.length_append, HT.out, HD.out, rflat_append]; exact owns_base Ho2.out (by omega)) (fun p hp => ⟨(H.out.js p (HjT.out p hp)).1, (H.out.js p (HjT.out p hp)).2.below HX2.out⟩) (by rw [List.length_append, HT.out, HD.out]; omega) Hd.out.asc
      have HF := hide hset
      have HO := hide (ROnly.of_only (B := B) H.out.blk (fun z q => by cases q) hset.2)
      clear hset
      go_wp2
      go_ret
      exact ⟨by rw [Hyes.out]; rfl, ⟨_, T ++ D, HF.out.1, Hd.out, fun A hA h1 h2 => ⟨AvV.own Ho2.out hA, fun p hp => h2 p (HjT.out p hp)⟩⟩, HO.out⟩
  · have hnot : (L.any fun p => p.id == id) = false := by
      rw [List.any_eq_false]
      intro p hp
      simpa using hno p hp
    have Hnot := hide hnot
    have HD : Hid (RDrop L L id) := hide ⟨H.out.asc, fun p => ⟨fun hp => ⟨hp, hno p hp⟩, fun hp => hp.1⟩, Nat.le_refl _⟩
    clear hno hnot
    go_wp2
    go_ret
    exact ⟨by rw [Hnot.out]; rfl, ⟨_, L, H.out, HD.out, fun A _ h1 h2 => ⟨h1, h2⟩⟩, ROnly.refl _ _ _⟩
end Go.Proofs.Ytmcajoccfbebiaa
