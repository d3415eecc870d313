/- Justifications sorted: slices.SortFunc on a row of one's own. -/
import Derived.Test.YtmcajoccfbebiaaTr10
namespace Go.Proofs.Ytmcajoccfbebiaa
open Go Go.RowKit Go.MapKept Go.Sort Go.Shelf

/-- A justification whose tuple can be read, whatever becomes of block g. -/
def OkJ (g : Nat) (w : World) : Type := { j : Jc // ∀ V, Only [g] w V → NIs V j.x j.tup }
def OkJ.nil (g : Nat) (w : World) : OkJ g w := ⟨⟨0, [], .slice none 0 0⟩, fun _ _ => ⟨by simp, .inr ⟨rfl, .inl rfl⟩⟩⟩
instance (g : Nat) (w : World) : Inhabited (OkJ g w) := ⟨OkJ.nil g w⟩
def encJ {g : Nat} {w : World} (j : OkJ g w) : List Value := [.int .i64 j.1.rule, j.1.x]

theorem flat_jflat {g : Nat} {w : World} (l : List (OkJ g w)) : flatK encJ 2 l.toArray = (jflat (l.map (·.1))).toArray := by
  refine ext_get! (by simp [jflat_length]) fun t ht => ?_
  have ht' : t < l.length * 2 := by simpa using ht
  rw [get_flatK _ _ _ t (by simpa using ht')]
  have hq : t / 2 < l.length := by omega
  obtain ⟨k0, k1⟩ := jflat_get (l.map (·.1)) (t / 2) (by simpa using hq)
  simp only [List.getElem_map] at k0 k1
  have hl : (encJ l.toArray[t / 2]!) = [.int .i64 l[t / 2].1.rule, l[t / 2].1.x] := by
    rw [getElem!_pos l.toArray (t / 2) (by simpa using hq)]
    rfl
  rw [hl]
  have hjl : t < (jflat (l.map (·.1))).length := by rw [jflat_length]; simpa using ht'
  rw [getElem!_pos (jflat (l.map (·.1))).toArray t (by simpa using hjl)]
  rcases Nat.mod_two_eq_zero_or_one t with q | q
  · have e : t / 2 * 2 = t := by omega
    rw [e, List.getElem?_eq_getElem hjl] at k0
    injection k0 with k0
    simp [q, k0]
  · have e : t / 2 * 2 + 1 = t := by omega
    rw [e, List.getElem?_eq_getElem hjl] at k1
    injection k1 with k1
    simp [q, k1]

theorem only_sortWorld {g : Nat} {w : World} {n : Nat} {d : Array (OkJ g w)} {os : Array Obj} : Only [g] w (sortWorldK encJ 2 w g 0 n d os) := by
  refine ⟨rfl, rfl, rfl, ?_, fun k hk hn => ?_⟩
  · exact size_sortWorldK_c encJ 2 w g 0 n d os
  · unfold sortWorldK
    rw [heap_grow_old _ _ (by simpa [putRowK] using hk)]
    have : g ≠ k := fun e => hn (by simp [e])
    simp [putRowK, putRow, mapBlock, Sort.ahead, Array.getElem?_modify, this]

theorem swo_just (g : Nat) (w : World) : SWO (ltOf fun x y : OkJ g w => cmpJ x.1 y.1) := by
  have e : ∀ x y : OkJ g w, ltOf (fun x y : OkJ g w => cmpJ x.1 y.1) x y = decide (cmpJ x.1 y.1 < 0) := fun x y => by
    unfold ltOf
    rfl
  have h := cmp_just
  refine ⟨fun x => ?_, fun x y z => ?_, fun x y z => ?_⟩
  · rw [e]
    have := h.anti x.1 x.1
    simp
    omega
  · simp only [e, decide_eq_true_eq]
    exact fun h1 h2 => h.lt1 h1 (Int.le_of_lt h2)
  · simp only [e, decide_eq_false_iff_not]
    intro h1 h2 h3
    have a1 := h.anti x.1 y.1
    have a2 := h.anti y.1 z.1
    have a3 := h.anti x.1 z.1
    have := h.trans z.1 y.1 x.1 (by omega) (by omega)
    omega

set_option maxRecDepth 100000 in
set_option maxHeartbeats 400000 in
theorem sort_none (f : Value) (w : World) : Calls Try.prog 65 #[.slice none 0 0, f] w fun e w' => e = .returned (.tuple #[]) ∧ w' = w := by
  have hl : Calls Try.prog 83 #[.int .u64 0] w fun e w' => e = .returned (.int .i64 0) ∧ w' = w := by
    have := Try.bits_Len 0 w (by omega) (by omega)
    exact this
  have hp : Calls Try.prog 93 #[.slice none 0 0, .int .i64 0, .int .i64 0, .int .i64 0, f] w fun e w' => e = .returned (.tuple #[]) ∧ w' = w := by
    have hins : Calls Try.prog 109 #[.slice none 0 0, .int .i64 0, .int .i64 0, f] w fun e w' => e = .returned (.tuple #[]) ∧ w' = w := by
      go_enter Try.func109, Try.ntmps109
      go_wp2
      refine wp_loop_rounds 1 ?_
      rw [rounds_succ]
      go_wp2
      go_end0
      exact ⟨rfl, rfl⟩
    go_enter Try.func93, Try.ntmps93
    go_wp2
    refine wp_loop_rounds 1 ?_
    rw [rounds_succ]
    go_wp2_with fail
    refine hins.mono ?_
    rintro e w' ⟨rfl, rfl⟩
    go_wp2
    exact bodyPost_ret (v := .tuple #[]) (by simp [results, Try.results93, go_sem]) rfl ⟨rfl, rfl⟩
  go_enter Try.func65, Try.ntmps65
  go_wp2_with fail
  refine hl.mono ?_
  rintro e w' ⟨rfl, rfl⟩
  go_wp2_with fail
  refine hp.mono ?_
  rintro e w' ⟨rfl, rfl⟩
  go_wp2
  go_end0
  exact ⟨rfl, rfl⟩

theorem sortJ_any (B : Nat) (v : Value) (l : List Jc) (w : World) (hl : l.length ≤ 1000000) (h : w.ownsRow B 53 2 v l.length (jflat l)) (ht : ∀ j ∈ l, ∀ V, Only v.ownBlock.toList w V → NIs V j.x j.tup) :
    Calls Try.prog 65 #[v, .func (.func 66) #[] #[]] w fun e w' => e = .returned (.tuple #[]) ∧ ∃ l' : List Jc, l'.Perm l ∧ l'.Pairwise (fun a b => cmpJ a b ≤ 0) ∧ w'.ownsRow B 53 2 v l'.length (jflat l') ∧ Only v.ownBlock.toList w w' := by
  rcases h.2 with ⟨rfl, h0⟩ | ⟨g, cap, cur, rfl, hB, hg, hc, hcm, hcs, hct⟩
  · refine (sort_none _ w).mono ?_
    rintro e w' ⟨rfl, rfl⟩
    have hl0 : l = [] := List.eq_nil_of_length_eq_zero h0
    subst hl0
    exact ⟨rfl, [], List.Perm.refl _, List.Pairwise.nil, h, Only.refl _ _⟩
  · have hgl := lt_of_heap hg
    let la : List (OkJ g w) := l.attach.map fun j => ⟨j.1, fun V hV => ht j.1 j.2 V (hV.mono (by simp [Value.ownBlock]))⟩
    have hla : la.map (·.1) = l := List.map_map.trans (List.attach_map_subtype_val l)
    have hlen : la.length = l.length := by have := congrArg List.length hla; rwa [List.length_map] at this
    have hct' : (cur.toList).take (l.length * 2) = jflat l := hct
    have hH : HoldsK (encJ (g := g) (w := w)) 2 w g 0 la.toArray := fun j hj => by
      rw [flat_jflat, hla] at hj ⊢
      have hj' : j < (jflat l).length := by simpa using hj
      rw [getElem!_pos _ j hj]
      have hjc : cur[j]? = some (jflat l)[j] := by
        have := congrArg (fun (k : List Value) => k[j]?) hct'
        rw [List.getElem?_take, if_pos (by rw [jflat_length] at hj'; exact hj'), List.getElem?_eq_getElem hj', Array.getElem?_toList] at this
        exact this
      simp only [Nat.zero_add]
      exact ⟨by simp [World.cell?, hg, hjc], by simp [World.frozen?, hg]⟩
    have hsz : la.toArray.size < 4611686018427387904 := by simp; omega
    have hcon := AnyQ.slices_SortFunc Try.sortJ 2 Try.isAgg53 Try.sizeOf53 (encJ (g := g) (w := w)) (fun _ => rfl) (fun x u hu => by
      simp only [encJ, List.mem_cons, List.not_mem_nil, or_false] at hu
      rcases hu with rfl | rfl
      · rfl
      · obtain ⟨a, c, hx⟩ := (x.2 w (Only.refl _ _)).form
        rw [hx]; rfl) (fun x y : OkJ g w => cmpJ x.1 y.1) (swo_just g w) 66 #[] g 0 cap la.toArray w eg_of1 (fun m os dk _ x y => of1_any x.1 y.1 _ (x.2 _ only_sortWorld) (y.2 _ only_sortWorld)) hH hgl hsz
    have hsize : la.toArray.size = l.length := by simpa using hlen
    rw [hsize] at hcon
    refine hcon.mono ?_
    rintro e w' ⟨rfl, d', n, os, hp, hs, rfl⟩
    have hd : d'.size = l.length := by rw [hp.1]; exact hsize
    have hperm : d'.toList.Perm la := by
      have := hp.2.2
      rw [Array.extract_eq_self_of_le (by omega), Array.extract_eq_self_of_le (by omega)] at this
      simpa using this
    refine ⟨rfl, d'.toList.map (·.1), ?_, ?_, ?_, only_sortWorld.mono (by simp [Value.ownBlock])⟩
    · have := hperm.map (·.1)
      rwa [hla] at this
    · rw [List.pairwise_map, List.pairwise_iff_getElem]
      intro i j hi hj hij
      have h1 := hs i j (Nat.zero_le _) hij (by simpa [hd] using hj)
      unfold ltOf at h1
      rw [getElem!_pos d' j (by simpa using hj), getElem!_pos d' i (by simpa using hi)] at h1
      have h2 := cmp_just.anti d'[i].1 d'[j].1
      simp only [decide_eq_false_iff_not] at h1
      simp only [Array.getElem_toList]
      omega
    · have hl' : (d'.toList.map (·.1)).length = l.length := by simp [hd]
      rw [hl']
      refine ⟨by rw [jflat_length, hl'], .inr ⟨g, cap, putCells id 0 (flatK encJ 2 d') cur, rfl, hB, ?_, hc, hcm, by simp [putCells, hcs], ?_⟩⟩
      · unfold sortWorldK
        rw [heap_grow_old _ _ (by simpa [putRowK] using hgl)]
        simp [putRowK, putRow, mapBlock, Sort.ahead, Array.getElem?_modify, hg, onCells]
      · have hfl : flatK encJ 2 d' = (jflat (d'.toList.map (·.1))).toArray := by
          have := flat_jflat d'.toList
          simpa using this
        rw [hfl]
        have hjl : (jflat (d'.toList.map (·.1))).length = l.length * 2 := by rw [jflat_length, hl']
        apply List.ext_getElem?
        intro j
        by_cases hj : j < l.length * 2
        · have hjc : j < cur.size := by omega
          rw [List.getElem?_take_of_lt hj, Array.getElem?_toList]
          simp [putCells, hjc, hjl, hj]
        · rw [List.getElem?_take_eq_none (by omega), List.getElem?_eq_none (by omega)]
end Go.Proofs.Ytmcajoccfbebiaa
