/- The walk of witanlaw27.known. -/
import Derived.Test.YtelgajgghgknnaaAgLaw
namespace Go.Proofs.Ytelgajgghgknnaa
open Go Go.RowKit Go.MapKept Go.Sort

theorem acts_none (w : World) : ActsIs w (.slice none 0 0) [] := ⟨by simp, .inr ⟨rfl, .inl rfl⟩, by simp⟩
theorem nis_only {w w' : World} {x : Value} {l : List Int} {S : List Nat} (h : NIs w x l) (ho : Only S w w') (hn : ∀ a n c, x = .slice (some a) n c → a.block ∉ S) : NIs w' x l := by
  obtain ⟨hl, ⟨b, off, cap, rfl, hi⟩ | h⟩ := h
  · exact ⟨hl, .inl ⟨b, off, cap, rfl, fun i hil => (ho.cell (p := ⟨b, off + i, none⟩) (lt_of_cell (hi i hil)) (by exact hn ⟨b, off, none⟩ _ _ rfl)).trans (hi i hil)⟩⟩
  · exact ⟨hl, .inr h⟩
theorem acts_only {w w' : World} {v : Value} {l : List Ac} {S : List Nat} (h : ActsIs w v l) (ho : Only S w w') (hv : ∀ a n c, v = .slice (some a) n c → a.block ∉ S) (ht : ∀ a ∈ l, ∀ ad n c, a.x = .slice (some ad) n c → ad.block ∉ S) : ActsIs w' v l := by
  refine ⟨h.len, ?_, fun a ha => nis_only (h.tups a ha) ho (ht a ha)⟩
  rcases h.row with ⟨b, off, cap, rfl, hi⟩ | q
  · refine .inl ⟨b, off, cap, rfl, fun i hil => ?_⟩
    obtain ⟨h0, h1, h2⟩ := hi i hil
    have hb := hv _ _ _ rfl
    exact ⟨(ho.cell (p := ⟨b, off + i * 3, none⟩) (lt_of_cell h0) hb).trans h0, (ho.cell (p := ⟨b, off + i * 3 + 1, none⟩) (lt_of_cell h1) hb).trans h1, (ho.cell (p := ⟨b, off + i * 3 + 2, none⟩) (lt_of_cell h2) hb).trans h2⟩
  · exact .inr q

theorem nis_cells {w : World} {b : Nat} {x y : Int} {t : TypeId} (h : w.heap[b]? = some (.cells #[.int .i64 x, .int .i64 y] t (0, 0))) : NIs w (.slice (some ⟨b, 0, none⟩) 2 2) [x, y] :=
  ⟨by simp, .inl ⟨b, 0, 2, rfl, fun i hi => by
    match i, hi with
    | 0, _ => exact cellAt (i := 0) h rfl
    | 1, _ => exact cellAt (i := 1) h rfl⟩⟩
theorem acts_cells {w : World} {b : Nat} {a : Ac} {t : TypeId} (h : w.heap[b]? = some (.cells #[.int .i64 a.rule, a.x, .int .i64 a.sal] t (0, 0))) (hn : NIs w a.x a.tup) : ActsIs w (.slice (some ⟨b, 0, none⟩) 1 1) [a] :=
  ⟨by simp, .inl ⟨b, 0, 1, rfl, fun i hi => by
    match i, hi with
    | 0, _ => exact ⟨cellAt (i := 0) h rfl, cellAt (i := 1) h rfl, cellAt (i := 2) h rfl⟩⟩, by simpa using hn⟩

theorem laid_empty {l : List En} {x : Ac} (h : LaidAll [] [x] l) : ∃ y, y.co = x.co ∧ l = [⟨y, false⟩] := by
  rcases laidAll_one h with ⟨_, h2⟩ | ⟨_, i, y, hi, hy, rfl⟩
  · simp at h2
  · have : i = 0 := by simpa using hi
    subst this
    exact ⟨y, hy, rfl⟩
theorem laid_there {y x : Ac} {f : Bool} {l : List En} (hy : y.co = x.co) (h : LaidAll [⟨y, f⟩] [x] l) : l = [⟨y, f⟩] := by
  rcases laidAll_one h with ⟨h1, _⟩ | ⟨h1, _⟩
  · exact h1
  · simp [same_of_co hy] at h1

set_option maxRecDepth 100000 in
set_option maxHeartbeats 2000000 in
theorem known27_walk (w : World) : Calls Try.prog 9 #[] w fun e w' => e = .returned (.bool true) ∧ Below w.heap.size w w' := by
  have Hnew := hide (new_ag 1 w)
  go_enter Try.func9, Try.ntmps9
  go_wp2_with fail
  refine Hnew.out.mono ?_
  rintro r w1 ⟨rfl, hA, hb1⟩
  obtain ⟨w2, hw2, h1, h2, hsz, hb2⟩ := heap2 w1 (Obj.cells #[.int .i64 1, .int .i64 2] 3) (Obj.cells #[.int .i64 0, .slice (some ⟨w1.heap.size, 0, none⟩) 2 2, .int .i64 0] 27)
  have hlt := lt_of_heap hA.blk
  have hX0 : ActsIs w2 (.slice (some ⟨w1.heap.size + 1, 0, none⟩) 1 1) [⟨0, [1, 2], 0, .slice (some ⟨w1.heap.size, 0, none⟩) 2 2⟩] := acts_cells h2 (nis_cells h1)
  obtain ⟨X, hX⟩ : ∃ X : Ac, (⟨0, [1, 2], 0, .slice (some ⟨w1.heap.size, 0, none⟩) 2 2⟩ : Ac) = X := ⟨_, rfl⟩
  have hXx : X.x = .slice (some ⟨w1.heap.size, 0, none⟩) 2 2 := by rw [← hX]
  have hXc : ∀ V, AgOnly w.heap.size (.slice none 0 0) w2 V → V.cell? ⟨w1.heap.size + 1, 0, none⟩ = some (.int .i64 0) ∧ V.cell? ⟨w1.heap.size + 1, 1, none⟩ = some (.slice (some ⟨w1.heap.size, 0, none⟩) 2 2) ∧ V.cell? ⟨w1.heap.size + 1, 2, none⟩ = some (.int .i64 0) := fun V hV => by
    have hz : w1.heap.size + 1 < w2.heap.size := by omega
    have hn : w1.heap.size + 1 ∉ w.heap.size :: (Value.ownBlock (.slice none 0 0)).toList := by simp [Value.ownBlock]; omega
    exact ⟨(hV.cell (p := ⟨w1.heap.size + 1, 0, none⟩) hz hn).trans (cellAt (i := 0) h2 rfl), (hV.cell (p := ⟨w1.heap.size + 1, 1, none⟩) hz hn).trans (cellAt (i := 1) h2 rfl), (hV.cell (p := ⟨w1.heap.size + 1, 2, none⟩) hz hn).trans (cellAt (i := 2) h2 rfl)⟩
  have hXv : X.val = .agg #[.int .i64 0, .slice (some ⟨w1.heap.size, 0, none⟩) 2 2, .int .i64 0] := by rw [← hX]; rfl
  rw [hX] at hX0
  have hacts : ∀ V, AgOnly w.heap.size (.slice none 0 0) w2 V → ActsIs V (.slice (some ⟨w1.heap.size + 1, 0, none⟩) 1 1) [X] := fun V hV =>
    acts_only hX0 hV (fun a n c e => by cases e; simp [Value.ownBlock]; omega) (fun a ha ad n c e => by
      simp only [List.mem_singleton] at ha
      subst ha
      rw [hXx] at e
      cases e
      simp [Value.ownBlock]
      omega)
  have hA2 := hA.below hb2
  have hBs : w.heap.size ≤ w2.heap.size := by omega
  have hch1 := change_any w.heap.size w.heap.size 1 (.slice none 0 0) [] (.slice none 0 0) (.slice (some ⟨w1.heap.size + 1, 0, none⟩) 1 1) [] [X] w2 hA2 hBs (fun V _ => acts_none V) hacts (by simp)
  have HW2 := hide hw2
  have Hch1 := hide hch1
  have Hacts := hide hacts
  have HXc := hide hXc
  have HB2 := hide (hb1.trans (hb2.mono hb1.size))
  have Hsz := hide hsz
  have HXv := hide hXv
  clear hw2 h1 h2 hb2 hb1 hX0 hXc hA2 hch1 hX hXx hacts hA hsz Hnew
  go_wp2_with fail
  rw [HW2.out]
  refine Hch1.out.mono ?_
  rintro r w3 ⟨rfl, v3, l3, hA3, hl3, hO3, hS3⟩
  obtain ⟨y, hy, rfl⟩ := laid_empty hl3
  have hBs3 : w.heap.size ≤ w3.heap.size := Nat.le_trans hBs hO3.size
  obtain ⟨c0, c1, c2⟩ := HXc.out w3 hO3
  have hf1 := fire_any w.heap.size w.heap.size 1 v3 [⟨y, false⟩] X w3 hA3 ((Hacts.out w3 hO3).tups X (by simp))
  have e1 : hasE [⟨y, false⟩] X = true := by simp [hasE, same_of_co hy]
  have e2 : firedE [⟨y, false⟩] X = false := by rw [firedE_cons, same_of_co hy]; rfl
  have e3 : fireAt [⟨y, false⟩] X = [⟨y, true⟩] := by rw [fireAt_cons, same_of_co hy]; rfl
  rw [e1, e2, e3, HXv.out] at hf1
  have Hf1 := hide hf1
  have HO3 := hide hO3
  have HS3 := hide hS3
  have HY := hide hy
  clear hA3 hl3 hO3 hS3 hf1 e1 e2 e3 hy Hch1
  go_wp2_with fail
  refine Hf1.out.mono ?_
  rintro r w4 ⟨rfl, hA4, hO4⟩
  have hO4' := AgOnly.then HO3.out HS3.out hO4
  have hch2 := change_any w.heap.size w.heap.size 1 v3 [⟨y, true⟩] (.slice none 0 0) (.slice (some ⟨w1.heap.size + 1, 0, none⟩) 1 1) [] [X] w4 hA4 (Nat.le_trans hBs3 hO4.size) (fun V _ => acts_none V) (fun V hV => Hacts.out V (AgOnly.then hO4' HS3.out hV)) (by simp)
  have Hch2 := hide hch2
  have HO4 := hide hO4'
  clear hA4 hO4 hO4' hch2 Hf1 c0 c1 c2
  go_wp2_with fail
  refine Hch2.out.mono ?_
  rintro r w5 ⟨rfl, v5, l5, hA5, hl5, hO5, hS5⟩
  obtain rfl := laid_there HY.out hl5
  have hO5' := AgOnly.then HO4.out HS3.out hO5
  have hS5' := Stays.then HS3.out hS5 HO4.out.size
  have hli := list_any w.heap.size w.heap.size 1 v5 [⟨y, true⟩] w5 hA5
  have Hli := hide hli
  have HA5 := hide hA5
  have HO5 := hide hO5'
  have HS5 := hide hS5'
  clear hA5 hl5 hO5 hS5 hO5' hS5' hli Hch2
  go_wp2_with fail
  refine Hli.out.mono ?_
  rintro r w6 ⟨v6, l6, rfl, hr6, hc6, hb6⟩
  have hl6 : l6 = [] := by
    have := congrArg List.length hc6
    rw [sortC_length] at this
    simp at this
    exact this
  subst hl6
  obtain ⟨va6, vc6, rfl⟩ := hr6.acts.form
  have hA6 := HA5.out.below hb6
  have hO6 : AgOnly w.heap.size (.slice none 0 0) w2 w6 := HO5.out.trans (Only.of_below hb6 _)
  have hS6 : Stays (.slice none 0 0) v5 w2 := HS5.out
  have hch3 := change_any w.heap.size w.heap.size 1 v5 [⟨y, true⟩] (.slice (some ⟨w1.heap.size + 1, 0, none⟩) 1 1) (.slice none 0 0) [X] [] w6 hA6 (Nat.le_trans hBs hO6.size) (fun V hV => Hacts.out V (AgOnly.then hO6 hS6 hV)) (fun V _ => acts_none V) (by simp)
  have e4 : [X].foldl dropped [⟨y, true⟩] = [] := by
    show dropped [⟨y, true⟩] X = []
    rw [dropped_cons, same_of_co HY.out]
    rfl
  rw [e4] at hch3
  have Hch3 := hide hch3
  have HO6 := hide hO6
  clear hr6 hc6 hb6 hA6 hO6 hS6 hch3 e4 Hli HA5 HO5
  simp only [List.length_nil]
  go_wp2_with fail
  refine Hch3.out.mono ?_
  rintro r w7 ⟨rfl, v7, l7, hA7, hl7, hO7, hS7⟩
  obtain rfl := laidAll_nil hl7
  have hO7' := AgOnly.then HO6.out HS5.out hO7
  have hS7' := Stays.then HS5.out hS7 HO6.out.size
  have hch4 := change_any w.heap.size w.heap.size 1 v7 [] (.slice none 0 0) (.slice (some ⟨w1.heap.size + 1, 0, none⟩) 1 1) [] [X] w7 hA7 (Nat.le_trans hBs hO7'.size) (fun V _ => acts_none V) (fun V hV => Hacts.out V (AgOnly.then hO7' hS7' hV)) (by simp)
  have Hch4 := hide hch4
  have HO7 := hide hO7'
  have HS7 := hide hS7'
  clear hA7 hl7 hO7 hS7 hO7' hS7' hch4 Hch3
  go_wp2_with fail
  refine Hch4.out.mono ?_
  rintro r w8 ⟨rfl, v8, l8, hA8, hl8, hO8, hS8⟩
  obtain ⟨z, hz, rfl⟩ := laid_empty hl8
  have hO8' := AgOnly.then HO7.out HS7.out hO8
  have hli2 := list_any w.heap.size w.heap.size 1 v8 [⟨z, false⟩] w8 hA8
  have Hli2 := hide hli2
  have HO8 := hide hO8'
  clear hA8 hl8 hO8 hS8 hO8' hli2 hz Hch4
  go_wp2_with fail
  refine Hli2.out.mono ?_
  rintro r w9 ⟨v9, l9, rfl, hr9, hc9, hb9⟩
  have hl9 : l9.length = 1 := by
    have := congrArg List.length hc9
    rw [sortC_length] at this
    simpa using this
  obtain ⟨va9, vc9, rfl⟩ := hr9.acts.form
  rw [hl9]
  have hfin := hide (below_only HB2.out (HO8.out.trans (Only.of_below hb9 _)) (by simp [Value.ownBlock]) hBs)
  clear hr9 hc9 hb9 hl9 Hli2
  go_wp2
  go_ret
  exact ⟨rfl, hfin.out⟩
end Go.Proofs.Ytelgajgghgknnaa
