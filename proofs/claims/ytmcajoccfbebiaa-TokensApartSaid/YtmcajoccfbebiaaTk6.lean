/- Tokens: what was gathered is sorted by the numbers. -/
import Derived.Test.YtmcajoccfbebiaaTk5
import Derived.Test.YtmcajoccfbebiaaShelf
import Derived.Test.YtmcajoccfbebiaaSortF
namespace Go.Proofs.Ytmcajoccfbebiaa
open Go Go.RowKit Go.MapKept Go.Sort Go.Shelf

instance : Inhabited Tk := ⟨noTk⟩
def encT (t : Tk) : List Value := [.int .i64 t.id, .int .i64 t.parent, .int .i64 t.node, .int .i64 t.fact]
theorem flat_tflat (l : List Tk) : flatK encT 4 l.toArray = (tflat l).toArray := by
  refine ext_get! (by simp [tflat_length]) fun t ht => ?_
  have ht' : t < l.length * 4 := by simpa using ht
  rw [get_flatK _ _ _ t (by simpa using ht')]
  have hq : t / 4 < l.length := by omega
  obtain ⟨k0, k1, k2, k3⟩ := tflat_get l (t / 4) hq
  have hl : (encT l.toArray[t / 4]!) = [.int .i64 l[t / 4].id, .int .i64 l[t / 4].parent, .int .i64 l[t / 4].node, .int .i64 l[t / 4].fact] := by
    rw [getElem!_pos l.toArray (t / 4) (by simpa using hq)]
    rfl
  rw [hl]
  have hjl : t < (tflat l).length := by rw [tflat_length]; exact ht'
  rw [getElem!_pos (tflat l).toArray t (by simpa using hjl)]
  have h4 : t % 4 = 0 ∨ t % 4 = 1 ∨ t % 4 = 2 ∨ t % 4 = 3 := by omega
  rcases h4 with q | q | q | q
  · have e : t / 4 * 4 = t := by omega
    rw [e, List.getElem?_eq_getElem hjl] at k0
    injection k0 with k0
    simp [q, k0]
  · have e : t / 4 * 4 + 1 = t := by omega
    rw [e, List.getElem?_eq_getElem hjl] at k1
    injection k1 with k1
    simp [q, k1]
  · have e : t / 4 * 4 + 2 = t := by omega
    rw [e, List.getElem?_eq_getElem hjl] at k2
    injection k2 with k2
    simp [q, k2]
  · have e : t / 4 * 4 + 3 = t := by omega
    rw [e, List.getElem?_eq_getElem hjl] at k3
    injection k3 with k3
    simp [q, k3]
theorem only_sortT {g : Nat} {w : World} {n : Nat} {d : Array Tk} {os : Array Obj} : Only [g] w (sortWorldK encT 4 w g 0 n d os) := by
  refine ⟨rfl, rfl, rfl, ?_, fun k hk hn => ?_⟩
  · exact size_sortWorldK_c encT 4 w g 0 n d os
  · unfold sortWorldK
    rw [heap_grow_old _ _ (by simpa [putRowK] using hk)]
    have : g ≠ k := fun e => hn (by simp [e])
    simp [putRowK, putRow, mapBlock, Sort.ahead, Array.getElem?_modify, this]
def cmpT (x y : Tk) : Int := Lib.compareInt x.id y.id
theorem swo_tk : SWO (ltOf cmpT) := by
  have e : ∀ x y : Tk, ltOf cmpT x y = decide (x.id < y.id) := fun x y => by
    unfold ltOf cmpT Lib.compareInt
    by_cases h : x.id < y.id
    · simp [h]
    · by_cases h2 : y.id < x.id <;> simp [h, h2]
  refine ⟨fun x => ?_, fun x y z => ?_, fun x y z => ?_⟩
  · rw [e]
    simp
  · simp only [e, decide_eq_true_eq]
    omega
  · simp only [e, decide_eq_false_iff_not]
    omega

set_option maxRecDepth 100000 in
theorem rem2_any (x y : Tk) (w : World) :
    Calls Try.prog 49 #[x.val, y.val] w fun e w' => e = .returned (.int .i64 (cmpT x y)) ∧ ∃ q os', w' = grow (w.drewN q) os' := by
  obtain ⟨x0, x1, x2, x3⟩ := x
  obtain ⟨y0, y1, y2, y3⟩ := y
  unfold Tk.val cmpT
  simp only
  have hg : (w.alloc (Obj.cells #[.int .i64 x0, .int .i64 x1, .int .i64 x2, .int .i64 x3] 32)).alloc (Obj.cells #[.int .i64 y0, .int .i64 y1, .int .i64 y2, .int .i64 y3] 32) = grow (w.drewN 0) #[Obj.cells #[.int .i64 x0, .int .i64 x1, .int .i64 x2, .int .i64 x3] 32, Obj.cells #[.int .i64 y0, .int .i64 y1, .int .i64 y2, .int .i64 y3] 32] := by
    rw [alloc_eq_grow, alloc_eq_grow, grow_grow]
    rfl
  have Hg := hide hg
  clear hg
  go_enter Try.func49, Try.ntmps49
  go_wp2_with fail
  refine (Try.cmp_Compare_int x0 y0 _).mono ?_
  rintro e w' ⟨rfl, rfl⟩
  go_wp2
  go_ret
  exact ⟨rfl, 0, _, Hg.out⟩
theorem eg_rem2 : ∀ args w, (callFunc 49 args).run Try.prog w = .ok (.enter 49 args) w := enters_of Try.func49 (by kernel_rfl) rfl

theorem tsort_any (B : Nat) (v : Value) (l : List Tk) (w : World) (hl : l.length ≤ 1000000) (hl0 : l ≠ []) (h : w.ownsRow B 32 4 v l.length (tflat l)) :
    Calls Try.prog 48 #[v, .func (.func 49) #[] #[]] w fun e w' => e = .returned (.tuple #[]) ∧ ∃ l' : List Tk, l'.Perm l ∧ l'.Pairwise (fun a b => a.id ≤ b.id) ∧ w'.ownsRow B 32 4 v l.length (tflat l') ∧ Only v.ownBlock.toList w w' := by
  rcases h.2 with ⟨rfl, h0⟩ | ⟨g, cap, cur, rfl, hB, hg, hc, hcm, hcs, hct⟩
  · exact absurd (List.eq_nil_of_length_eq_zero h0) hl0
  · have hgl := lt_of_heap hg
    have hct' : (cur.toList).take (l.length * 4) = tflat l := hct
    have hH : HoldsK encT 4 w g 0 l.toArray := fun j hj => by
      rw [flat_tflat] at hj ⊢
      have hj' : j < (tflat l).length := by simpa using hj
      rw [getElem!_pos _ j hj]
      have hjc : cur[j]? = some (tflat l)[j] := by
        have := congrArg (fun (k : List Value) => k[j]?) hct'
        rw [List.getElem?_take, if_pos (by rw [tflat_length] at hj'; exact hj'), List.getElem?_eq_getElem hj', Array.getElem?_toList] at this
        exact this
      simp only [Nat.zero_add]
      exact ⟨by simp [World.cell?, hg, hjc], by simp [World.frozen?, hg]⟩
    have hsz : l.toArray.size < 4611686018427387904 := by simp; omega
    have hcon := AnyQ.slices_SortFunc Try.sortTok 4 Try.isAgg32 Try.sizeOf32 encT (fun _ => rfl) (fun x u hu => by
      simp only [encT, List.mem_cons, List.not_mem_nil, or_false] at hu
      rcases hu with rfl | rfl | rfl | rfl <;> rfl) cmpT swo_tk 49 #[] g 0 cap l.toArray w eg_rem2 (fun m os dk _ x y => rem2_any x y _) hH hgl hsz
    have hsize : l.toArray.size = l.length := by simp
    rw [hsize] at hcon
    refine hcon.mono ?_
    rintro e w' ⟨rfl, d', n, os, hp, hs, rfl⟩
    have hd : d'.size = l.length := by rw [hp.1]; exact hsize
    have hperm : d'.toList.Perm l := by
      have := hp.2.2
      rw [Array.extract_eq_self_of_le (by omega), Array.extract_eq_self_of_le (by omega)] at this
      simpa using this
    refine ⟨rfl, d'.toList, hperm, ?_, ?_, only_sortT.mono (by simp [Value.ownBlock])⟩
    · rw [List.pairwise_iff_getElem]
      intro i j hi hj hij
      have h1 := hs i j (Nat.zero_le _) hij (by simpa [hd] using hj)
      unfold ltOf at h1
      rw [getElem!_pos d' j (by simpa using hj), getElem!_pos d' i (by simpa using hi)] at h1
      simp only [decide_eq_false_iff_not] at h1
      unfold cmpT Lib.compareInt at h1
      simp only [Array.getElem_toList]
      by_cases q : d'[i].id ≤ d'[j].id
      · exact q
      · rw [if_pos (by omega)] at h1
        exact absurd (by decide) h1
    have hl' : d'.toList.length = l.length := by simpa using hd
    refine ⟨by rw [tflat_length, hl'], .inr ⟨g, cap, putCells id 0 (flatK encT 4 d') cur, rfl, hB, ?_, hc, hcm, by simp [putCells, hcs], ?_⟩⟩
    · unfold sortWorldK
      rw [heap_grow_old _ _ (by simpa [putRowK] using hgl)]
      simp [putRowK, putRow, mapBlock, Sort.ahead, Array.getElem?_modify, hg, onCells]
    · have hfl : flatK encT 4 d' = (tflat d'.toList).toArray := by
        have := flat_tflat d'.toList
        simpa using this
      rw [hfl]
      have hjl : (tflat d'.toList).length = l.length * 4 := by rw [tflat_length, hl']
      apply List.ext_getElem?
      intro j
      by_cases hj : j < l.length * 4
      · have hjc : j < cur.size := by omega
        rw [List.getElem?_take_of_lt hj, Array.getElem?_toList]
        simp [putCells, hjc, hjl, hj]
      · rw [List.getElem?_take_eq_none (by omega), List.getElem?_eq_none (by omega)]
end Go.Proofs.Ytmcajoccfbebiaa
