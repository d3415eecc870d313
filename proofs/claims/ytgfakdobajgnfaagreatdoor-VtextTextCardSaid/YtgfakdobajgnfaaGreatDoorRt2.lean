/- vtext (the document's): digits. -/
import Derived.Test.YtgfakdobajgnfaaGreatDoorNm8
import Derived.Test.YtgfakdobajgnfaaGreatDoorRt1
import Derived.Test.YtgfakdobajgnfaaGreatDoorDl
import Derived.Test.YtgfakdobajgnfaaGreatDoorFct
namespace Go.Proofs.YtgfakdobajgnfaaGreatDoor
open Go Go.RowKit Go.Lib

theorem mono_nil : ∀ F ∈ ([] : List (Value → World → Prop)), ∀ v w w', F v w → Below w.heap.size w w' → F v w' := fun _ h => by cases h
theorem mono_cons {F : Value → World → Prop} {Fs : List (Value → World → Prop)} (h : ∀ v w w', F v w → Below w.heap.size w w' → F v w') (hs : ∀ F ∈ Fs, ∀ v w w', F v w → Below w.heap.size w w' → F v w') : ∀ G ∈ F :: Fs, ∀ v w w', G v w → Below w.heap.size w w' → G v w' := fun G hG => by
  rcases List.mem_cons.1 hG with rfl | hG
  · exact h
  · exact hs G hG
/-- Two numbers. -/
def Two (n m : Nat) (v : Value) (V : World) : Prop := ∃ v1 v2, v = .tuple #[v1, v2] ∧ NumIs V v1 ((n : Nat) : Int) ∧ NumIs V v2 ((m : Nat) : Int)
theorem Two.below {n m : Nat} {v : Value} {w w' : World} (h : Two n m v w) (hb : Below w.heap.size w w') : Two n m v w' := by
  obtain ⟨v1, v2, h1, h2, h3⟩ := h
  exact ⟨v1, v2, h1, h2.below hb, h3.below hb⟩
/-- A number, its digits in sight. -/
def NumD (n : Nat) (v : Value) (V : World) : Prop := NumIs V v (n : Int)
theorem NumD.below {n : Nat} {v : Value} {w w' : World} (h : NumD n v w) (hb : Below w.heap.size w w') : NumD n v w' := NumIs.below h hb
theorem dg_digit {d : Nat} (h : 0 < d) (h' : d < 10000) : dg d = [d] := by
  rw [dg_pos (by omega), Nat.mod_eq_of_lt h', show d / 10000 = 0 by omega, dg_zero]
theorem natIs {w : World} {a : Option Addr} {n c m : Nat} (h : DgRd w (.slice a n c) (dg m)) : NumIs w (.agg #[.bool false, .slice a n c]) (m : Int) := ⟨_, by rw [decide_eq_false (by omega)], by rw [Int.natAbs_natCast]; exact h⟩
/-- A digit's row. -/
theorem digit_row {w : World} {a : Option Addr} {n c d : Nat} (h : DgRd w (.slice a n c) (dg d)) (hd : d < 10) : (d = 0 ∧ n = 0) ∨ (0 < d ∧ n = 1 ∧ ∃ b o, a = some ⟨b, o, none⟩ ∧ w.cell? ⟨b, o, none⟩ = some (.int .i64 (d : Int))) := by
  obtain ⟨_, _, e, _⟩ := h.slice
  injection e with _ e _
  by_cases h0 : d = 0
  · subst h0
    exact .inl ⟨rfl, by rw [e, dg_zero]; rfl⟩
  · rw [dg_digit (by omega) (by omega)] at e h
    obtain ⟨b, o, h1, h2⟩ := h.at (i := 0) (by simp)
    exact .inr ⟨by omega, e, b, o, h1, by simpa using h2⟩
/-- A digit's byte as a string. -/
theorem conv_digit (F : World) (d : Nat) (x : Int) (hx : x = 48 + (d : Int)) (h : d < 10) : (convert 40 9 (.slice (some ⟨F.heap.size, 0, none⟩) 1 1)).run Tryz.prog (F.alloc (.cells #[.int .u8 x] 5)) = .ok (.string ⟨#[UInt8.ofNat (48 + d)]⟩) (F.alloc (.cells #[.int .u8 x] 5)) := by
  have := run_convert_bytes_back (P := Tryz.prog) (F.alloc (.cells #[.int .u8 x] 5)) 40 9 5 ⟨F.heap.size, 0, none⟩ 1 [UInt8.ofNat (48 + d)] Tryz.underlying40 Tryz.underlying5 Tryz.underlying9 (fun j hj => by
    have hj0 : j = 0 := by simp at hj; exact hj
    subst hj0
    simp only [List.getElem_cons_zero, toNat_dig d h]
    show (F.alloc (.cells #[.int .u8 x] 5)).cell? ⟨F.heap.size, 0, none⟩ = _
    simp only [World.cell?, heap_alloc0, hx]
    rfl)
  exact this
theorem decD_le : ∀ (m n : Nat), n < 10 ^ (m + 1) → (decDigits n).length ≤ m + 1
  | 0, n, h => by rw [decDigits_small (by omega)]; simp
  | m + 1, n, h => by
    by_cases h10 : n < 10
    · rw [decDigits_small h10]; simp
    · have := decD_le m (n / 10) (by rw [Nat.pow_succ] at h; omega)
      rw [decDigits_big h10, List.length_append]
      simp
      omega
theorem padD_short {n k : Nat} (hn : lenD n ≤ 5) (hk : k ≤ 5) : (padD n k).length ≤ 30 := by
  have h1 := lt_lenD n
  have h2 : 10000 ^ lenD n ≤ 10000 ^ 5 := Nat.pow_le_pow_right (by decide) hn
  have h3 := decD_le 19 n (by omega)
  have := padD_len n k
  omega
/-- Two boxes are filled. -/
theorem two_stores {V F : World} {p q : Nat} {x1 x2 y1 y2 : Value} (hp : V.heap[p]? = some (.cells #[.bool false, .slice none 0 0] 79 (0, 0))) (hq : V.heap[q]? = some (.cells #[.bool false, .slice none 0 0] 79 (0, 0))) (hne : p ≠ q)
    (hF : (((V.setCell ⟨p, 0, none⟩ x1).setCell ⟨p, 1, none⟩ x2).setCell ⟨q, 0, none⟩ y1).setCell ⟨q, 1, none⟩ y2 = F) :
    F.heap[p]? = some (.cells #[x1, x2] 79 (0, 0)) ∧ F.heap[q]? = some (.cells #[y1, y2] 79 (0, 0)) ∧ Only [p, q] V F ∧ ∀ v z, NumIs V v z → NumIs F v z := by
  subst hF
  have h1 := setCell_heap (i := 1) (u := x2) (setCell_heap (i := 0) (u := x1) hp)
  have o1 : Only [p] V ((V.setCell ⟨p, 0, none⟩ x1).setCell ⟨p, 1, none⟩ x2) := ((Only.refl [p] V).setCell (.inl (by simp)) _).setCell (.inl (by simp)) _
  obtain ⟨V1, hV1⟩ : ∃ V1, (V.setCell ⟨p, 0, none⟩ x1).setCell ⟨p, 1, none⟩ x2 = V1 := ⟨_, rfl⟩
  rw [hV1] at h1 o1 ⊢
  have hq1 : V1.heap[q]? = _ := (o1.block q (lt_some hq) (by simp; exact fun e => hne e.symm)).trans hq
  have h2 := setCell_heap (i := 1) (u := y2) (setCell_heap (i := 0) (u := y1) hq1)
  have o2 : Only [q] V1 ((V1.setCell ⟨q, 0, none⟩ y1).setCell ⟨q, 1, none⟩ y2) := ((Only.refl [q] V1).setCell (.inl (by simp)) _).setCell (.inl (by simp)) _
  refine ⟨(o2.block p (lt_some h1) (by simp; exact hne)).trans h1, h2, (o1.mono (T := [p, q]) (by simp)).step o2 (by simp), fun v z h => ?_⟩
  · have := (h.store hp x1 x2).store (r := q) (t := 79) (p := false) (a := none) (n := 0) (c := 0) (by rw [hV1]; exact hq1) y1 y2
    rwa [hV1] at this
/-- The boxes of digits: the number, what is left. -/
structure DtAt (w wr : World) (b : Bool) (s : Value) (l : Value) : Prop where
  x : wr.heap[w.heap.size]? = some (.cells #[.bool b, s] 79 (0, 0))
  l : wr.heap[w.heap.size + 1]? = some (.cells #[.bool false, l] 79 (0, 0))
  bel : Below w.heap.size w wr
theorem DtAt.box {w wo F : World} {b : Bool} {s l : Value} (hA : DtAt w wo b s l) (hF : Below wo.heap.size wo F) (O : Obj) : (F.alloc O).heap[w.heap.size + 1]? = some (.cells #[.bool false, l] 79 (0, 0)) :=
  ((hF.alloc (hF.size) O).block _ (lt_some hA.l)).trans hA.l
theorem dt_next {w wo F : World} {b : Bool} {s : Value} {la a5 : Option Addr} {ln lc n5 c5 m : Nat} (hA : DtAt w wo b s (.slice la ln lc)) (hF : Below wo.heap.size wo F) (h5 : NumIs F (.agg #[.bool false, .slice a5 n5 c5]) (m : Int)) (O : Obj) :
    DtAt w (((F.alloc O).setCell ⟨w.heap.size + 1, 0, none⟩ (.bool false)).setCell ⟨w.heap.size + 1, 1, none⟩ (.slice a5 n5 c5)) b s (.slice a5 n5 c5) ∧ DgRd (((F.alloc O).setCell ⟨w.heap.size + 1, 0, none⟩ (.bool false)).setCell ⟨w.heap.size + 1, 1, none⟩ (.slice a5 n5 c5)) (.slice a5 n5 c5) (dg m) ∧ n5 = lenD m := by
  have hbx := hA.box hF O
  have h1 := setCell_heap (i := 1) (u := .slice a5 n5 c5) (setCell_heap (i := 0) (u := .bool false) hbx)
  have o1 : Only [w.heap.size + 1] (F.alloc O) (((F.alloc O).setCell ⟨w.heap.size + 1, 0, none⟩ (.bool false)).setCell ⟨w.heap.size + 1, 1, none⟩ (.slice a5 n5 c5)) := ((Only.refl _ _).setCell (.inl (by simp)) _).setCell (.inl (by simp)) _
  have hbF := hF.alloc (hF.size) O
  have h5' := ((NumIs.below h5 ((Below.refl F.heap.size F).alloc (Nat.le_refl _) O)).store hbx (.bool false) (.slice a5 n5 c5)).nat
  obtain ⟨_, _, _, e, hd⟩ := h5'
  injection e with e
  have e2 := congrArg (fun x : Array Value => x[1]?) e
  simp at e2
  obtain ⟨rfl, rfl, rfl⟩ := e2
  refine ⟨⟨?_, h1, ?_⟩, hd, ?_⟩
  · refine (o1.block _ ?_ (by simp)).trans ((hbF.block _ (lt_some hA.x)).trans hA.x)
    exact Nat.lt_of_lt_of_le (lt_some hA.x) hbF.size
  · exact ((hA.bel.trans (hbF.mono hA.bel.size)).setCell (by simp) _).setCell (by simp) _
  · obtain ⟨_, _, e, _⟩ := hd.slice
    injection e
theorem pad_next {N k n dd : Nat} {sl cs : ByteArray} (hP : padD N k = padD n (k - sl.size) ++ dl sl) (hgo : 0 < n ∨ sl.size < k) (hdd : n % 10 = dd) (hcs : cs = ⟨#[UInt8.ofNat (48 + dd)]⟩) (hN : lenD N ≤ 5) (hk : k ≤ 5) : (cs ++ sl).size ≤ 30 ∧ padD N k = padD (n / 10) (k - (cs ++ sl).size) ++ dl (cs ++ sl) ∧ 30 - (cs ++ sl).size < 30 - sl.size := by
  obtain ⟨h1, h2⟩ := padD_more hP (by omega)
  have h3 := padD_short hN hk
  have e1 : (cs ++ sl).size = 1 + sl.size := by rw [ByteArray.size_append, hcs]; rfl
  have e2 : dl (cs ++ sl) = UInt8.ofNat (48 + n % 10) :: dl sl := by rw [dl_app, hcs, hdd]; rfl
  rw [dl_size] at h2
  refine ⟨by omega, ?_, by omega⟩
  rw [e1, e2, h1, show k - sl.size - 1 = k - (1 + sl.size) by omega]
set_option maxRecDepth 100000 in
set_option maxHeartbeats 16000000 in
theorem rdigits_any {w : World} {sx : Value} {N : Nat} (bx : Bool) (hx : DgRd w sx (dg N)) (hN : lenD N ≤ 5) (k : Nat) (hk : k ≤ 5) : Calls Tryz.prog 48 #[.agg #[.bool bx, sx], .int .i64 (k : Int)] w fun e w' => e = .returned (.string ⟨(padD N k).toArray⟩) ∧ Below w.heap.size w w' := by
  obtain ⟨ax, cx, rfl, _⟩ := hx.slice
  obtain ⟨nx, hnx⟩ : ∃ n, (dg N).length = n := ⟨_, rfl⟩
  rw [hnx] at hx ⊢
  have HX := hide hx
  have HNX := hide hnx
  have HN := hide hN
  have HK := hide hk
  clear hx hnx hN hk
  go_enter Tryz.func48, Tryz.ntmps48
  go_wp2_with fail
  go_loopw [5] (fun v5 wr => ∃ (n : Nat) (sl : ByteArray) (la : Option Addr) (ln lc : Nat), v5 = .string sl ∧ sl.size ≤ 30 ∧ Hid (DtAt w wr bx (.slice ax nx cx) (.slice la ln lc) ∧ DgRd wr (.slice la ln lc) (dg n) ∧ ln = lenD n ∧ lenD n ≤ 5 ∧ padD N k = padD n (k - sl.size) ++ dl sl)) (fun v5 _ => 30 - (strV v5).size)
  case atStart =>
    refine ⟨N, ⟨#[]⟩, ax, nx, cx, rfl, by decide, hide ⟨⟨?_, ?_, ?_⟩, ?_, HNX.out.symm, HN.out, by simp [dl]; rfl⟩⟩
    · rw [RowKit.Below.heap_alloc _ _ _ (by simp)]; exact (MapKept.heap_alloc w _).1
    · have := (MapKept.heap_alloc (w.alloc (.cells #[.bool bx, .slice ax nx cx] 79)) (.cells #[.bool false, .slice ax nx cx] 79)).1
      simpa using this
    · exact ((Below.refl _ _).alloc (Nat.le_refl _) _).alloc (by simp) _
    · exact HX.out.below (((Below.refl _ _).alloc (Nat.le_refl _) _).alloc (by simp) _)
  case round =>
    obtain ⟨wo, rfl⟩ : ∃ wo : World, wo = wr := ⟨_, rfl⟩
    obtain ⟨n, sl, la, ln, lc, rfl, hsl, hq⟩ := hrel
    obtain ⟨hA, hD, hln, hL5, hP⟩ := hq.out
    obtain ⟨m0, m1, _⟩ := two_cells' hA.l
    obtain ⟨wd, hwd⟩ : ∃ wd, wo.drew = wd := ⟨_, rfl⟩
    have hbd : Below wo.heap.size wo wd := by rw [← hwd]; exact (Below.refl _ _).drew
    have HA := hide (And.intro hA hbd)
    have HPP := hide (And.intro hP hL5)
    have hlp : 0 < n ↔ 0 < ln := by
      rw [hln]
      constructor
      · intro h
        have := lt_lenD n
        rcases Nat.eq_zero_or_pos (lenD n) with q | q
        · rw [q] at this; omega
        · exact q
      · intro h
        rcases Nat.eq_zero_or_pos n with q | q
        · subst q; simp [lenD, dg_zero] at h
        · exact q
    have hbb : ∀ V, Below wd.heap.size wd V → NumIs V (.agg #[.bool false, .slice la ln lc]) (n : Int) := fun V hV => ⟨_, by rw [decide_eq_false (by omega)], by simpa [hln] using (hD.below hbd).below hV⟩
    have HLN := hide hbb
    have hsl2 : ∀ V, Below wd.heap.size wd V → V.cell? ⟨w.heap.size + 1, 0, none⟩ = some (.bool false) ∧ V.cell? ⟨w.heap.size + 1, 1, none⟩ = some (.slice la ln lc) := fun V hV => by
      exact ⟨bcell hV (bcell hbd m0), bcell hV (bcell hbd m1)⟩
    have HSL := hide hsl2
    have HLD := hide hln
    have HLP := hide hlp
    clear hq hA hD hP hL5 hbd hlp hbb hsl2 hln
    by_cases hgo : 0 < n ∨ sl.size < k
    · have HGO := hide hgo
      obtain ⟨gb, hgb⟩ : ∃ gb, decide ((0 : Int) < (ln : Int)) = gb := ⟨_, rfl⟩
      have hgt : gb = false → decide (sl.size < k) = true := fun e => decide_eq_true (by
        subst e
        have := of_decide_eq_false hgb
        have := HLP.out
        omega)
      clear hgo
      cases gb with
      | false =>
        have hgk := hgt rfl
        obtain rfl : ln = 0 := by have := of_decide_eq_false hgb; omega
        have m0d := (HSL.out wd (Below.refl _ _)).1
        have m1d := (HSL.out wd (Below.refl _ _)).2
        clear hgt hgb
        go_wp2_with fail
        refine wp_region_noPanic ?_
        refine wp_region_held_drew (S := fun V => V.cell? ⟨w.heap.size + 1, 0, none⟩ = some (.bool false) ∧ V.cell? ⟨w.heap.size + 1, 1, none⟩ = some (.slice la 0 lc)) (by kernel_rfl) ?_ (fun hHeld => ?_)
        · (try dsimp only); go_keep
        rw [hwd] at hHeld ⊢
        refine wpAnyH_take (i := 0) (oi := ⟨some 24, _, _, _, _, _⟩) (v := ?_) rfl (by kernel_rfl) (by kernel_rfl) (by kernel_rfl) (fun _ _ _ h => h) (Or.inl ⟨by rfl, ?_⟩) (by assumption) ?_
        rotate_left
        · (intro w hSw; (try dsimp only at hSw); (first | (go_simp; done) | (go_simp; with_reducible rfl)))
        try simp only [Act.put, List.setIfInBounds_toArray, List.set_cons_zero, List.set_cons_succ]
        have HMONO := hide (show ∀ F ∈ [NumD 10, Two (n / 10) (n % 10), Bx wd.heap.size 79 #[.bool false, .slice none 0 0], Bx wd.heap.size 79 #[.bool false, .slice none 0 0], Two (n / 10) (n % 10), NumD (n / 10), NumD (n % 10)], ∀ v w w', F v w → Below w.heap.size w w' → F v w' from mono_cons (fun _ _ _ h hb => h.below hb) <| mono_cons (fun _ _ _ h hb => h.below hb) <| mono_cons (fun _ _ _ h hb => h.below hb) <| mono_cons (fun _ _ _ h hb => h.below hb) <| mono_cons (fun _ _ _ h hb => h.below hb) <| mono_cons (fun _ _ _ h hb => h.below hb) <| mono_cons (fun _ _ _ h hb => h.below hb) <| mono_nil)
        refine wpAnyH_facts (Inv := InvB wd.heap.size wd [NumD 10, Two (n / 10) (n % 10), Bx wd.heap.size 79 #[.bool false, .slice none 0 0], Bx wd.heap.size 79 #[.bool false, .slice none 0 0], Two (n / 10) (n % 10), NumD (n / 10), NumD (n % 10)] [2, 3]) 7 [1, 2, 6, 7, 3, 4, 5] [some 25, some 26, some 7, some 8, some 23, some 27, some 28] [[], [0], [], [], [1], [4], [4]] [false, false, false, false, true, true, true] (by kernel_rfl) (fun _ _ _ _ _ h => h) (by kernel_rfl) ?_ (InvB.start rfl rfl) ?_ ?_
        · intro d u V hI
          exact HSL.out V hI.1
        · refine lt7 ?_ ?_ ?_ ?_ ?_ ?_ ?_
          · rw [if_neg (by decide)]
            refine OneB.mk 1 ⟨some 25, _, _, _, _, _⟩ _ rfl rfl rfl rfl HMONO.out (Nat.le_refl _) ?_
            intro d u V hd hu hdep hF hbV hzV K hK
            obtain ⟨x0, x1, x2, x3, x4, x5, x6, rfl⟩ := len7 hu
            obtain ⟨b0, b1, b2, b3, b4, b5, b6, rfl⟩ := len7 hd
            obtain ⟨f0, f1, f2, f3, f4, f5, f6, _⟩ := hF
            clear hd hu hdep f0 f1 f2 f3 f4 f5 f6 HMONO
            have HBV := hide hbV
            have HZV := hide hzV
            clear hbV hzV
            simp only [putAll, Act.put, List.setIfInBounds_toArray, List.set_cons_zero, List.set_cons_succ] at hK ⊢
            go_simp
            go_at_call 47
            (with_reducible refine Calls.mono (of_num 10 (by decide) (by decide)) ?_)
            rintro e V1 ⟨⟨v1, rfl, hv1⟩, hb1⟩
            (try go_wp2_with fail)
            refine hK.out _ _ hb1 hv1 (fun h => absurd h (by decide))
          · rw [if_neg (by decide)]
            refine OneB.mk 2 ⟨some 26, _, _, _, _, _⟩ _ rfl rfl rfl rfl HMONO.out (Nat.le_refl _) ?_
            intro d u V hd hu hdep hF hbV hzV K hK
            obtain ⟨x0, x1, x2, x3, x4, x5, x6, rfl⟩ := len7 hu
            obtain ⟨b0, b1, b2, b3, b4, b5, b6, rfl⟩ := len7 hd
            obtain ⟨f0, f1, f2, f3, f4, f5, f6, _⟩ := hF
            have g0 := f0 (List.all_eq_true.1 hdep 0 (by decide))
            clear hd hu hdep f0 f1 f2 f3 f4 f5 f6 HMONO
            (try dsimp only at g0)
            have HBV := hide hbV
            have HZV := hide hzV
            clear hbV hzV
            simp only [putAll, Act.put, List.setIfInBounds_toArray, List.set_cons_zero, List.set_cons_succ] at hK ⊢
            have HQ := hide (quo_nat (X := n) (Y := 10) (HLN.out V HBV.out) g0 (by decide) (by have := HPP.out.2; omega) (Nat.le_trans (lenD_small (by decide)) (by decide)))
            clear g0
            go_simp
            go_at_call 77
            (with_reducible refine HQ.out.mono ?_)
            rintro e V1 ⟨⟨v1, v2, rfl, hv1, hv2⟩, hb1⟩
            (try go_wp2_with fail)
            refine hK.out _ _ hb1 ⟨v1, v2, rfl, hv1, hv2⟩ (fun h => absurd h (by decide))
          · rw [if_neg (by decide)]
            refine OneB.mk 6 ⟨some 7, _, _, _, _, _⟩ _ rfl rfl rfl rfl HMONO.out (Nat.le_refl _) ?_
            intro d u V hd hu hdep hF hbV hzV K hK
            obtain ⟨x0, x1, x2, x3, x4, x5, x6, rfl⟩ := len7 hu
            obtain ⟨b0, b1, b2, b3, b4, b5, b6, rfl⟩ := len7 hd
            obtain ⟨f0, f1, f2, f3, f4, f5, f6, _⟩ := hF
            clear hd hu hdep f0 f1 f2 f3 f4 f5 f6 HMONO
            have HBV := hide hbV
            have HZV := hide hzV
            clear hbV hzV
            simp only [putAll, Act.put, List.setIfInBounds_toArray, List.set_cons_zero, List.set_cons_succ] at hK ⊢
            go_simp
            (try go_wp2_with fail)
            refine hK.out _ _ ((Below.refl _ _).alloc (Nat.le_refl _) _) ⟨_, rfl, HZV.out, (MapKept.heap_alloc V _).1⟩ (fun _ => ⟨rfl, by simp⟩)
          · rw [if_neg (by decide)]
            refine OneB.mk 7 ⟨some 8, _, _, _, _, _⟩ _ rfl rfl rfl rfl HMONO.out (Nat.le_refl _) ?_
            intro d u V hd hu hdep hF hbV hzV K hK
            obtain ⟨x0, x1, x2, x3, x4, x5, x6, rfl⟩ := len7 hu
            obtain ⟨b0, b1, b2, b3, b4, b5, b6, rfl⟩ := len7 hd
            obtain ⟨f0, f1, f2, f3, f4, f5, f6, _⟩ := hF
            clear hd hu hdep f0 f1 f2 f3 f4 f5 f6 HMONO
            have HBV := hide hbV
            have HZV := hide hzV
            clear hbV hzV
            simp only [putAll, Act.put, List.setIfInBounds_toArray, List.set_cons_zero, List.set_cons_succ] at hK ⊢
            go_simp
            (try go_wp2_with fail)
            refine hK.out _ _ ((Below.refl _ _).alloc (Nat.le_refl _) _) ⟨_, rfl, HZV.out, (MapKept.heap_alloc V _).1⟩ (fun _ => ⟨rfl, by simp⟩)
          · rw [if_pos (by decide)]
            refine OneBP.mk 3 ⟨some 23, _, _, _, _, _⟩ _ rfl rfl rfl rfl (by decide) ?_
            intro d u V hd hu hdep hF hbV hzV
            obtain ⟨x0, x1, x2, x3, x4, x5, x6, rfl⟩ := len7 hu
            obtain ⟨b0, b1, b2, b3, b4, b5, b6, rfl⟩ := len7 hd
            obtain ⟨f0, f1, f2, f3, f4, f5, f6, _⟩ := hF
            have g1 := f1 (List.all_eq_true.1 hdep 1 (by decide))
            clear hd hu hdep f0 f1 f2 f3 f4 f5 f6 HMONO
            (try dsimp only at g1)
            have HBV := hide hbV
            have HZV := hide hzV
            clear hbV hzV
            refine ⟨x1, Or.inl ⟨by rfl, fun W hSW => ?_⟩, g1⟩
            simp only [putAll, Act.put, List.setIfInBounds_toArray, List.set_cons_zero, List.set_cons_succ]
            clear HBV HZV
            (try dsimp only at hSW)
            (first | (go_simp; done) | (go_simp; with_reducible rfl))
          · rw [if_pos (by decide)]
            refine OneBP.mk 4 ⟨some 27, _, _, _, _, _⟩ _ rfl rfl rfl rfl (by decide) ?_
            intro d u V hd hu hdep hF hbV hzV
            obtain ⟨x0, x1, x2, x3, x4, x5, x6, rfl⟩ := len7 hu
            obtain ⟨b0, b1, b2, b3, b4, b5, b6, rfl⟩ := len7 hd
            obtain ⟨f0, f1, f2, f3, f4, f5, f6, _⟩ := hF
            have g4 := f4 (List.all_eq_true.1 hdep 4 (by decide))
            clear hd hu hdep f0 f1 f2 f3 f4 f5 f6 HMONO
            (try dsimp only at g4)
            have HBV := hide hbV
            have HZV := hide hzV
            clear hbV hzV
            obtain ⟨v1, v2, rfl, hv1, hv2⟩ := g4
            refine ⟨v1, Or.inl ⟨by rfl, fun W hSW => ?_⟩, hv1⟩
            simp only [putAll, Act.put, List.setIfInBounds_toArray, List.set_cons_zero, List.set_cons_succ]
            clear HBV HZV
            (try dsimp only at hSW)
            (first | (go_simp; done) | (go_simp; with_reducible rfl))
          · rw [if_pos (by decide)]
            refine OneBP.mk 5 ⟨some 28, _, _, _, _, _⟩ _ rfl rfl rfl rfl (by decide) ?_
            intro d u V hd hu hdep hF hbV hzV
            obtain ⟨x0, x1, x2, x3, x4, x5, x6, rfl⟩ := len7 hu
            obtain ⟨b0, b1, b2, b3, b4, b5, b6, rfl⟩ := len7 hd
            obtain ⟨f0, f1, f2, f3, f4, f5, f6, _⟩ := hF
            have g4 := f4 (List.all_eq_true.1 hdep 4 (by decide))
            clear hd hu hdep f0 f1 f2 f3 f4 f5 f6 HMONO
            (try dsimp only at g4)
            have HBV := hide hbV
            have HZV := hide hzV
            clear hbV hzV
            obtain ⟨v1, v2, rfl, hv1, hv2⟩ := g4
            refine ⟨v2, Or.inl ⟨by rfl, fun W hSW => ?_⟩, hv2⟩
            simp only [putAll, Act.put, List.setIfInBounds_toArray, List.set_cons_zero, List.set_cons_succ]
            clear HBV HZV
            (try dsimp only at hSW)
            (first | (go_simp; done) | (go_simp; with_reducible rfl))
        · intro u V hu hI
          obtain ⟨x0, x1, x2, x3, x4, x5, x6, rfl⟩ := len7 hu
          obtain ⟨hbV, hzV, ⟨f0, f1, f2, f3, f4, f5, f6, _⟩, hDst⟩ := hI
          have f0 := f0 rfl
          have f1 := f1 rfl
          have f2 := f2 rfl
          have f3 := f3 rfl
          have f4 := f4 rfl
          have f5 := f5 rfl
          have f6 := f6 rfl
          clear hu HMONO
          simp only [putAll, Act.put, List.setIfInBounds_toArray, List.set_cons_zero, List.set_cons_succ]
          have hHeld := HSL.out V hbV
          obtain ⟨p2, rfl, hp2, hb2⟩ := f2
          obtain ⟨p3, rfl, hp3, hb3⟩ := f3
          have hne : p2 ≠ p3 := fun e => hDst.2 2 (by decide) 3 (by decide) (by decide) rfl rfl (by rw [e]; rfl)
          obtain ⟨a5, n5, c5, rfl, hd5⟩ := NumIs.nat f5
          obtain ⟨a6, n6, c6, rfl, hd6⟩ := NumIs.nat f6
          have hlt := lt_of_cell hHeld.1
          have hlw := lt_of_cell m0d
          have n1 : ¬ p2 = w.heap.size + 1 := by intro e; simp at hlw; omega
          have n2 : ¬ p3 = w.heap.size + 1 := by intro e; simp at hlw; omega
          have n3 : ¬ w.heap.size + 1 = p2 := fun e => n1 e.symm
          have n4 : ¬ w.heap.size + 1 = p3 := fun e => n2 e.symm
          have n5' : ¬ p3 = p2 := fun e => hne e.symm
          obtain ⟨c20, c21, cf2⟩ := two_cells' hb2
          obtain ⟨c30, c31, cf3⟩ := two_cells' hb3
          have cf20 := cf2 0
          have cf21 := cf2 1
          have cf30 := cf3 0
          have cf31 := cf3 1
          obtain ⟨hh0, hh1⟩ := hHeld
          have hHeld := HSL.out V hbV
          have H5 := hide hd5
          have H6 := hide hd6
          have HB2 := hide (And.intro hb2 hb3)
          have HP := hide (And.intro hp2 hp3)
          have HBV := hide (And.intro hbV hzV)
          clear f0 f1 f4 f5 f6 hDst hd5 hd6 hb2 hb3 hp2 hp3 hlt hlw cf2 cf3 hbV hzV
          refine wpAnyH_ready (rs := [8]) (by kernel_rfl) (by simp) ?_
          refine AllReadyH.cons (o := ⟨none, _, _, _, _, _⟩) (rs := []) rfl (fun K hK => ?_) AllReadyH.nil
          go_simp
          try go_wp2_with fail
          clear hHeld
          refine hK.out _ _ ?_ (fun hHeld => ?_)
          · (try dsimp only); go_keep
          clear hK K
          try simp only [Act.put, List.setIfInBounds_toArray, List.set_cons_zero, List.set_cons_succ]
          refine wpAnyH_ready (rs := [9]) (by kernel_rfl) (by simp) ?_
          refine AllReadyH.cons (o := ⟨none, _, _, _, _, _⟩) (rs := []) rfl (fun K hK => ?_) AllReadyH.nil
          go_simp
          try go_wp2_with fail
          clear hHeld
          refine hK.out _ _ ?_ (fun hHeld => ?_)
          · (try dsimp only); go_keep
          clear hK K
          try simp only [Act.put, List.setIfInBounds_toArray, List.set_cons_zero, List.set_cons_succ]
          refine wpAnyH_done (by kernel_rfl) ?_ _
          refine NoPanic.normal ?_
          obtain ⟨F, hF⟩ : ∃ F, (((V.setCell ⟨p2, 0, none⟩ (.bool false)).setCell ⟨p2, 1, none⟩ (.slice a5 n5 c5)).setCell ⟨p3, 0, none⟩ (.bool false)).setCell ⟨p3, 1, none⟩ (.slice a6 n6 c6) = F := ⟨_, rfl⟩
          rw [hF]
          obtain ⟨hF2, hF3, hFo, hFn⟩ := two_stores HB2.out.1 HB2.out.2 hne hF
          have hFb : Below wd.heap.size wd F := below_only HBV.out.1 hFo (by simp; exact ⟨HP.out.1, HP.out.2⟩) HBV.out.2
          have H5F := hide (hFn _ _ (natIs H5.out))
          have h6F := NumIs.natk (hFn _ _ (natIs H6.out))
          have hdig := digit_row h6F.2 (Nat.mod_lt _ (by decide))
          have hd10 : n % 10 < 10 := Nat.mod_lt _ (by decide)
          obtain ⟨dd, hdd⟩ : ∃ dd, n % 10 = dd := ⟨_, rfl⟩
          rw [hdd] at hdig hd10
          have HDD := hide hdd
          clear h6F hdd hHeld c20 c21 c30 c31 cf20 cf21 cf30 cf31 hh0 hh1 hF hFn hFo HB2 H5 H6
          obtain ⟨c20, c21, cf2⟩ := two_cells' hF2
          obtain ⟨c30, c31, cf3⟩ := two_cells' hF3
          have HFF := hide (And.intro hF2 (And.intro hF3 hFb))
          clear hF2 hF3 hFb
          obtain ⟨cs, hcs⟩ : ∃ cs : ByteArray, cs = ⟨#[UInt8.ofNat (48 + dd)]⟩ := ⟨_, rfl⟩
          have HPN := hide (pad_next HPP.out.1 HGO.out HDD.out hcs HN.out HK.out)
          have HCS := hide hcs
          clear hcs
          have hcsz : cs.size = 1 := by rw [HCS.out]; rfl
          have hcsl : cs.size ≤ 1 := by omega
          clear hcsz
          rcases hdig with ⟨rfl, rfl⟩ | ⟨hd1, rfl, b6, o6, rfl, hc6⟩
          · have hbF := HA.out.2.trans (HFF.out.2.2.mono HA.out.2.size)
            have hcv := conv_digit F 0 (48) (by omega) (by omega)
            rw [← HCS.out] at hcv
            have HDN := hide (dt_next HA.out.1 hbF H5F.out (.cells #[.int .u8 (48)] 5))
            obtain ⟨e0, e1, ef⟩ := two_cells' (HA.out.1.box hbF (.cells #[.int .u8 (48)] 5))
            have ef0 := ef 0
            have ef1 := ef 1
            have hal := (Below.refl F.heap.size F).alloc (Nat.le_refl _) (.cells #[.int .u8 (48)] 5)
            have c20 := bcell hal c20
            have c21 := bcell hal c21
            clear hbF ef cf2 cf3 hal
            go_wp2_with fail
            go_roundw
            case rel => exact ⟨n / 10, cs ++ sl, a5, n5, c5, rfl, HPN.out.1, hide ⟨HDN.out.1, HDN.out.2.1, HDN.out.2.2, Nat.le_trans (lenD_mono (Nat.div_le_self _ _)) HPP.out.2, HPN.out.2.1⟩⟩
            case measure => exact HPN.out.2.2
          · have hbF := HA.out.2.trans (HFF.out.2.2.mono HA.out.2.size)
            have hcv := conv_digit F dd (48 + (dd : Int)) (by omega) (by omega)
            rw [← HCS.out] at hcv
            have HDN := hide (dt_next HA.out.1 hbF H5F.out (.cells #[.int .u8 (48 + (dd : Int))] 5))
            obtain ⟨e0, e1, ef⟩ := two_cells' (HA.out.1.box hbF (.cells #[.int .u8 (48 + (dd : Int))] 5))
            have ef0 := ef 0
            have ef1 := ef 1
            have hal := (Below.refl F.heap.size F).alloc (Nat.le_refl _) (.cells #[.int .u8 (48 + (dd : Int))] 5)
            have c20 := bcell hal c20
            have c21 := bcell hal c21
            clear hbF ef cf2 cf3 hal
            go_wp2_with fail
            go_roundw
            case rel => exact ⟨n / 10, cs ++ sl, a5, n5, c5, rfl, HPN.out.1, hide ⟨HDN.out.1, HDN.out.2.1, HDN.out.2.2, Nat.le_trans (lenD_mono (Nat.div_le_self _ _)) HPP.out.2, HPN.out.2.1⟩⟩
            case measure => exact HPN.out.2.2
      | true =>
        have hgp : (0 : Int) < (ln : Int) := of_decide_eq_true hgb
        have m0d := (HSL.out wd (Below.refl _ _)).1
        have m1d := (HSL.out wd (Below.refl _ _)).2
        clear hgt
        go_wp2_with fail
        refine wp_region_noPanic ?_
        refine wp_region_held_drew (S := fun V => V.cell? ⟨w.heap.size + 1, 0, none⟩ = some (.bool false) ∧ V.cell? ⟨w.heap.size + 1, 1, none⟩ = some (.slice la ln lc)) (by kernel_rfl) ?_ (fun hHeld => ?_)
        · (try dsimp only); go_keep
        rw [hwd] at hHeld ⊢
        refine wpAnyH_take (i := 0) (oi := ⟨some 24, _, _, _, _, _⟩) (v := ?_) rfl (by kernel_rfl) (by kernel_rfl) (by kernel_rfl) (fun _ _ _ h => h) (Or.inl ⟨by rfl, ?_⟩) (by assumption) ?_
        rotate_left
        · (intro w hSw; (try dsimp only at hSw); (first | (go_simp; done) | (go_simp; with_reducible rfl)))
        try simp only [Act.put, List.setIfInBounds_toArray, List.set_cons_zero, List.set_cons_succ]
        have HMONO := hide (show ∀ F ∈ [NumD 10, Two (n / 10) (n % 10), Bx wd.heap.size 79 #[.bool false, .slice none 0 0], Bx wd.heap.size 79 #[.bool false, .slice none 0 0], Two (n / 10) (n % 10), NumD (n / 10), NumD (n % 10)], ∀ v w w', F v w → Below w.heap.size w w' → F v w' from mono_cons (fun _ _ _ h hb => h.below hb) <| mono_cons (fun _ _ _ h hb => h.below hb) <| mono_cons (fun _ _ _ h hb => h.below hb) <| mono_cons (fun _ _ _ h hb => h.below hb) <| mono_cons (fun _ _ _ h hb => h.below hb) <| mono_cons (fun _ _ _ h hb => h.below hb) <| mono_cons (fun _ _ _ h hb => h.below hb) <| mono_nil)
        refine wpAnyH_facts (Inv := InvB wd.heap.size wd [NumD 10, Two (n / 10) (n % 10), Bx wd.heap.size 79 #[.bool false, .slice none 0 0], Bx wd.heap.size 79 #[.bool false, .slice none 0 0], Two (n / 10) (n % 10), NumD (n / 10), NumD (n % 10)] [2, 3]) 7 [1, 2, 6, 7, 3, 4, 5] [some 25, some 26, some 7, some 8, some 23, some 27, some 28] [[], [0], [], [], [1], [4], [4]] [false, false, false, false, true, true, true] (by kernel_rfl) (fun _ _ _ _ _ h => h) (by kernel_rfl) ?_ (InvB.start rfl rfl) ?_ ?_
        · intro d u V hI
          exact HSL.out V hI.1
        · refine lt7 ?_ ?_ ?_ ?_ ?_ ?_ ?_
          · rw [if_neg (by decide)]
            refine OneB.mk 1 ⟨some 25, _, _, _, _, _⟩ _ rfl rfl rfl rfl HMONO.out (Nat.le_refl _) ?_
            intro d u V hd hu hdep hF hbV hzV K hK
            obtain ⟨x0, x1, x2, x3, x4, x5, x6, rfl⟩ := len7 hu
            obtain ⟨b0, b1, b2, b3, b4, b5, b6, rfl⟩ := len7 hd
            obtain ⟨f0, f1, f2, f3, f4, f5, f6, _⟩ := hF
            clear hd hu hdep f0 f1 f2 f3 f4 f5 f6 HMONO
            have HBV := hide hbV
            have HZV := hide hzV
            clear hbV hzV
            simp only [putAll, Act.put, List.setIfInBounds_toArray, List.set_cons_zero, List.set_cons_succ] at hK ⊢
            go_simp
            go_at_call 47
            (with_reducible refine Calls.mono (of_num 10 (by decide) (by decide)) ?_)
            rintro e V1 ⟨⟨v1, rfl, hv1⟩, hb1⟩
            (try go_wp2_with fail)
            refine hK.out _ _ hb1 hv1 (fun h => absurd h (by decide))
          · rw [if_neg (by decide)]
            refine OneB.mk 2 ⟨some 26, _, _, _, _, _⟩ _ rfl rfl rfl rfl HMONO.out (Nat.le_refl _) ?_
            intro d u V hd hu hdep hF hbV hzV K hK
            obtain ⟨x0, x1, x2, x3, x4, x5, x6, rfl⟩ := len7 hu
            obtain ⟨b0, b1, b2, b3, b4, b5, b6, rfl⟩ := len7 hd
            obtain ⟨f0, f1, f2, f3, f4, f5, f6, _⟩ := hF
            have g0 := f0 (List.all_eq_true.1 hdep 0 (by decide))
            clear hd hu hdep f0 f1 f2 f3 f4 f5 f6 HMONO
            (try dsimp only at g0)
            have HBV := hide hbV
            have HZV := hide hzV
            clear hbV hzV
            simp only [putAll, Act.put, List.setIfInBounds_toArray, List.set_cons_zero, List.set_cons_succ] at hK ⊢
            have HQ := hide (quo_nat (X := n) (Y := 10) (HLN.out V HBV.out) g0 (by decide) (by have := HPP.out.2; omega) (Nat.le_trans (lenD_small (by decide)) (by decide)))
            clear g0
            go_simp
            go_at_call 77
            (with_reducible refine HQ.out.mono ?_)
            rintro e V1 ⟨⟨v1, v2, rfl, hv1, hv2⟩, hb1⟩
            (try go_wp2_with fail)
            refine hK.out _ _ hb1 ⟨v1, v2, rfl, hv1, hv2⟩ (fun h => absurd h (by decide))
          · rw [if_neg (by decide)]
            refine OneB.mk 6 ⟨some 7, _, _, _, _, _⟩ _ rfl rfl rfl rfl HMONO.out (Nat.le_refl _) ?_
            intro d u V hd hu hdep hF hbV hzV K hK
            obtain ⟨x0, x1, x2, x3, x4, x5, x6, rfl⟩ := len7 hu
            obtain ⟨b0, b1, b2, b3, b4, b5, b6, rfl⟩ := len7 hd
            obtain ⟨f0, f1, f2, f3, f4, f5, f6, _⟩ := hF
            clear hd hu hdep f0 f1 f2 f3 f4 f5 f6 HMONO
            have HBV := hide hbV
            have HZV := hide hzV
            clear hbV hzV
            simp only [putAll, Act.put, List.setIfInBounds_toArray, List.set_cons_zero, List.set_cons_succ] at hK ⊢
            go_simp
            (try go_wp2_with fail)
            refine hK.out _ _ ((Below.refl _ _).alloc (Nat.le_refl _) _) ⟨_, rfl, HZV.out, (MapKept.heap_alloc V _).1⟩ (fun _ => ⟨rfl, by simp⟩)
          · rw [if_neg (by decide)]
            refine OneB.mk 7 ⟨some 8, _, _, _, _, _⟩ _ rfl rfl rfl rfl HMONO.out (Nat.le_refl _) ?_
            intro d u V hd hu hdep hF hbV hzV K hK
            obtain ⟨x0, x1, x2, x3, x4, x5, x6, rfl⟩ := len7 hu
            obtain ⟨b0, b1, b2, b3, b4, b5, b6, rfl⟩ := len7 hd
            obtain ⟨f0, f1, f2, f3, f4, f5, f6, _⟩ := hF
            clear hd hu hdep f0 f1 f2 f3 f4 f5 f6 HMONO
            have HBV := hide hbV
            have HZV := hide hzV
            clear hbV hzV
            simp only [putAll, Act.put, List.setIfInBounds_toArray, List.set_cons_zero, List.set_cons_succ] at hK ⊢
            go_simp
            (try go_wp2_with fail)
            refine hK.out _ _ ((Below.refl _ _).alloc (Nat.le_refl _) _) ⟨_, rfl, HZV.out, (MapKept.heap_alloc V _).1⟩ (fun _ => ⟨rfl, by simp⟩)
          · rw [if_pos (by decide)]
            refine OneBP.mk 3 ⟨some 23, _, _, _, _, _⟩ _ rfl rfl rfl rfl (by decide) ?_
            intro d u V hd hu hdep hF hbV hzV
            obtain ⟨x0, x1, x2, x3, x4, x5, x6, rfl⟩ := len7 hu
            obtain ⟨b0, b1, b2, b3, b4, b5, b6, rfl⟩ := len7 hd
            obtain ⟨f0, f1, f2, f3, f4, f5, f6, _⟩ := hF
            have g1 := f1 (List.all_eq_true.1 hdep 1 (by decide))
            clear hd hu hdep f0 f1 f2 f3 f4 f5 f6 HMONO
            (try dsimp only at g1)
            have HBV := hide hbV
            have HZV := hide hzV
            clear hbV hzV
            refine ⟨x1, Or.inl ⟨by rfl, fun W hSW => ?_⟩, g1⟩
            simp only [putAll, Act.put, List.setIfInBounds_toArray, List.set_cons_zero, List.set_cons_succ]
            clear HBV HZV
            (try dsimp only at hSW)
            (first | (go_simp; done) | (go_simp; with_reducible rfl))
          · rw [if_pos (by decide)]
            refine OneBP.mk 4 ⟨some 27, _, _, _, _, _⟩ _ rfl rfl rfl rfl (by decide) ?_
            intro d u V hd hu hdep hF hbV hzV
            obtain ⟨x0, x1, x2, x3, x4, x5, x6, rfl⟩ := len7 hu
            obtain ⟨b0, b1, b2, b3, b4, b5, b6, rfl⟩ := len7 hd
            obtain ⟨f0, f1, f2, f3, f4, f5, f6, _⟩ := hF
            have g4 := f4 (List.all_eq_true.1 hdep 4 (by decide))
            clear hd hu hdep f0 f1 f2 f3 f4 f5 f6 HMONO
            (try dsimp only at g4)
            have HBV := hide hbV
            have HZV := hide hzV
            clear hbV hzV
            obtain ⟨v1, v2, rfl, hv1, hv2⟩ := g4
            refine ⟨v1, Or.inl ⟨by rfl, fun W hSW => ?_⟩, hv1⟩
            simp only [putAll, Act.put, List.setIfInBounds_toArray, List.set_cons_zero, List.set_cons_succ]
            clear HBV HZV
            (try dsimp only at hSW)
            (first | (go_simp; done) | (go_simp; with_reducible rfl))
          · rw [if_pos (by decide)]
            refine OneBP.mk 5 ⟨some 28, _, _, _, _, _⟩ _ rfl rfl rfl rfl (by decide) ?_
            intro d u V hd hu hdep hF hbV hzV
            obtain ⟨x0, x1, x2, x3, x4, x5, x6, rfl⟩ := len7 hu
            obtain ⟨b0, b1, b2, b3, b4, b5, b6, rfl⟩ := len7 hd
            obtain ⟨f0, f1, f2, f3, f4, f5, f6, _⟩ := hF
            have g4 := f4 (List.all_eq_true.1 hdep 4 (by decide))
            clear hd hu hdep f0 f1 f2 f3 f4 f5 f6 HMONO
            (try dsimp only at g4)
            have HBV := hide hbV
            have HZV := hide hzV
            clear hbV hzV
            obtain ⟨v1, v2, rfl, hv1, hv2⟩ := g4
            refine ⟨v2, Or.inl ⟨by rfl, fun W hSW => ?_⟩, hv2⟩
            simp only [putAll, Act.put, List.setIfInBounds_toArray, List.set_cons_zero, List.set_cons_succ]
            clear HBV HZV
            (try dsimp only at hSW)
            (first | (go_simp; done) | (go_simp; with_reducible rfl))
        · intro u V hu hI
          obtain ⟨x0, x1, x2, x3, x4, x5, x6, rfl⟩ := len7 hu
          obtain ⟨hbV, hzV, ⟨f0, f1, f2, f3, f4, f5, f6, _⟩, hDst⟩ := hI
          have f0 := f0 rfl
          have f1 := f1 rfl
          have f2 := f2 rfl
          have f3 := f3 rfl
          have f4 := f4 rfl
          have f5 := f5 rfl
          have f6 := f6 rfl
          clear hu HMONO
          simp only [putAll, Act.put, List.setIfInBounds_toArray, List.set_cons_zero, List.set_cons_succ]
          have hHeld := HSL.out V hbV
          obtain ⟨p2, rfl, hp2, hb2⟩ := f2
          obtain ⟨p3, rfl, hp3, hb3⟩ := f3
          have hne : p2 ≠ p3 := fun e => hDst.2 2 (by decide) 3 (by decide) (by decide) rfl rfl (by rw [e]; rfl)
          obtain ⟨a5, n5, c5, rfl, hd5⟩ := NumIs.nat f5
          obtain ⟨a6, n6, c6, rfl, hd6⟩ := NumIs.nat f6
          have hlt := lt_of_cell hHeld.1
          have hlw := lt_of_cell m0d
          have n1 : ¬ p2 = w.heap.size + 1 := by intro e; simp at hlw; omega
          have n2 : ¬ p3 = w.heap.size + 1 := by intro e; simp at hlw; omega
          have n3 : ¬ w.heap.size + 1 = p2 := fun e => n1 e.symm
          have n4 : ¬ w.heap.size + 1 = p3 := fun e => n2 e.symm
          have n5' : ¬ p3 = p2 := fun e => hne e.symm
          obtain ⟨c20, c21, cf2⟩ := two_cells' hb2
          obtain ⟨c30, c31, cf3⟩ := two_cells' hb3
          have cf20 := cf2 0
          have cf21 := cf2 1
          have cf30 := cf3 0
          have cf31 := cf3 1
          obtain ⟨hh0, hh1⟩ := hHeld
          have hHeld := HSL.out V hbV
          have H5 := hide hd5
          have H6 := hide hd6
          have HB2 := hide (And.intro hb2 hb3)
          have HP := hide (And.intro hp2 hp3)
          have HBV := hide (And.intro hbV hzV)
          clear f0 f1 f4 f5 f6 hDst hd5 hd6 hb2 hb3 hp2 hp3 hlt hlw cf2 cf3 hbV hzV
          refine wpAnyH_ready (rs := [8]) (by kernel_rfl) (by simp) ?_
          refine AllReadyH.cons (o := ⟨none, _, _, _, _, _⟩) (rs := []) rfl (fun K hK => ?_) AllReadyH.nil
          go_simp
          try go_wp2_with fail
          clear hHeld
          refine hK.out _ _ ?_ (fun hHeld => ?_)
          · (try dsimp only); go_keep
          clear hK K
          try simp only [Act.put, List.setIfInBounds_toArray, List.set_cons_zero, List.set_cons_succ]
          refine wpAnyH_ready (rs := [9]) (by kernel_rfl) (by simp) ?_
          refine AllReadyH.cons (o := ⟨none, _, _, _, _, _⟩) (rs := []) rfl (fun K hK => ?_) AllReadyH.nil
          go_simp
          try go_wp2_with fail
          clear hHeld
          refine hK.out _ _ ?_ (fun hHeld => ?_)
          · (try dsimp only); go_keep
          clear hK K
          try simp only [Act.put, List.setIfInBounds_toArray, List.set_cons_zero, List.set_cons_succ]
          refine wpAnyH_done (by kernel_rfl) ?_ _
          refine NoPanic.normal ?_
          obtain ⟨F, hF⟩ : ∃ F, (((V.setCell ⟨p2, 0, none⟩ (.bool false)).setCell ⟨p2, 1, none⟩ (.slice a5 n5 c5)).setCell ⟨p3, 0, none⟩ (.bool false)).setCell ⟨p3, 1, none⟩ (.slice a6 n6 c6) = F := ⟨_, rfl⟩
          rw [hF]
          obtain ⟨hF2, hF3, hFo, hFn⟩ := two_stores HB2.out.1 HB2.out.2 hne hF
          have hFb : Below wd.heap.size wd F := below_only HBV.out.1 hFo (by simp; exact ⟨HP.out.1, HP.out.2⟩) HBV.out.2
          have H5F := hide (hFn _ _ (natIs H5.out))
          have h6F := NumIs.natk (hFn _ _ (natIs H6.out))
          have hdig := digit_row h6F.2 (Nat.mod_lt _ (by decide))
          have hd10 : n % 10 < 10 := Nat.mod_lt _ (by decide)
          obtain ⟨dd, hdd⟩ : ∃ dd, n % 10 = dd := ⟨_, rfl⟩
          rw [hdd] at hdig hd10
          have HDD := hide hdd
          clear h6F hdd hHeld c20 c21 c30 c31 cf20 cf21 cf30 cf31 hh0 hh1 hF hFn hFo HB2 H5 H6
          obtain ⟨c20, c21, cf2⟩ := two_cells' hF2
          obtain ⟨c30, c31, cf3⟩ := two_cells' hF3
          have HFF := hide (And.intro hF2 (And.intro hF3 hFb))
          clear hF2 hF3 hFb
          obtain ⟨cs, hcs⟩ : ∃ cs : ByteArray, cs = ⟨#[UInt8.ofNat (48 + dd)]⟩ := ⟨_, rfl⟩
          have HPN := hide (pad_next HPP.out.1 HGO.out HDD.out hcs HN.out HK.out)
          have HCS := hide hcs
          clear hcs
          have hcsz : cs.size = 1 := by rw [HCS.out]; rfl
          have hcsl : cs.size ≤ 1 := by omega
          clear hcsz
          rcases hdig with ⟨rfl, rfl⟩ | ⟨hd1, rfl, b6, o6, rfl, hc6⟩
          · have hbF := HA.out.2.trans (HFF.out.2.2.mono HA.out.2.size)
            have hcv := conv_digit F 0 (48) (by omega) (by omega)
            rw [← HCS.out] at hcv
            have HDN := hide (dt_next HA.out.1 hbF H5F.out (.cells #[.int .u8 (48)] 5))
            obtain ⟨e0, e1, ef⟩ := two_cells' (HA.out.1.box hbF (.cells #[.int .u8 (48)] 5))
            have ef0 := ef 0
            have ef1 := ef 1
            have hal := (Below.refl F.heap.size F).alloc (Nat.le_refl _) (.cells #[.int .u8 (48)] 5)
            have c20 := bcell hal c20
            have c21 := bcell hal c21
            clear hbF ef cf2 cf3 hal
            go_wp2_with fail
            go_roundw
            case rel => exact ⟨n / 10, cs ++ sl, a5, n5, c5, rfl, HPN.out.1, hide ⟨HDN.out.1, HDN.out.2.1, HDN.out.2.2, Nat.le_trans (lenD_mono (Nat.div_le_self _ _)) HPP.out.2, HPN.out.2.1⟩⟩
            case measure => exact HPN.out.2.2
          · have hbF := HA.out.2.trans (HFF.out.2.2.mono HA.out.2.size)
            have hcv := conv_digit F dd (48 + (dd : Int)) (by omega) (by omega)
            rw [← HCS.out] at hcv
            have HDN := hide (dt_next HA.out.1 hbF H5F.out (.cells #[.int .u8 (48 + (dd : Int))] 5))
            obtain ⟨e0, e1, ef⟩ := two_cells' (HA.out.1.box hbF (.cells #[.int .u8 (48 + (dd : Int))] 5))
            have ef0 := ef 0
            have ef1 := ef 1
            have hal := (Below.refl F.heap.size F).alloc (Nat.le_refl _) (.cells #[.int .u8 (48 + (dd : Int))] 5)
            have c20 := bcell hal c20
            have c21 := bcell hal c21
            clear hbF ef cf2 cf3 hal
            go_wp2_with fail
            go_roundw
            case rel => exact ⟨n / 10, cs ++ sl, a5, n5, c5, rfl, HPN.out.1, hide ⟨HDN.out.1, HDN.out.2.1, HDN.out.2.2, Nat.le_trans (lenD_mono (Nat.div_le_self _ _)) HPP.out.2, HPN.out.2.1⟩⟩
            case measure => exact HPN.out.2.2
    · obtain rfl : n = 0 := by omega
      obtain rfl : ln = 0 := by
        have := HLP.out
        omega
      have hfin : dl ⟨(padD N k).toArray⟩ = dl sl := by
        have := HPP.out.1
        rw [show k - sl.size = 0 by omega, padD_zero] at this
        rw [dl_mk, this]
        rfl
      have HFN := hide (ret_str hfin)
      have hgk : decide (sl.size < k) = false := decide_eq_false (by omega)
      clear hfin hgo
      go_wp2_with fail
      go_ret
      exact ⟨HFN.out.symm, HA.out.1.bel⟩
end Go.Proofs.YtgfakdobajgnfaaGreatDoor
