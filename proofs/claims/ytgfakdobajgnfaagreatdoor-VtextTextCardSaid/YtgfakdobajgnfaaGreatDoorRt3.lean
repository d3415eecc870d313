/- vtext (the document's): Text. -/
import Derived.Test.YtgfakdobajgnfaaGreatDoorNm5
import Derived.Test.YtgfakdobajgnfaaGreatDoorV3
import Derived.Test.YtgfakdobajgnfaaGreatDoorVt1
import Derived.Test.YtgfakdobajgnfaaGreatDoorRt2
namespace Go.Proofs.YtgfakdobajgnfaaGreatDoor
open Go Go.RowKit Go.Lib Go.Sort Go.Shelf

/-- What a text in quotes is behind a byte more. -/
theorem escT_snoc (l : List UInt8) (c : UInt8) : escT (l ++ [c]) = escT l ++ (if c = 92 then [92, 92] else if c = 34 then [92, 34] else [c]) := by
  induction l with
  | nil => rw [List.nil_append, escT_cons]; simp [escT, repB]
  | cons b r ih => rw [List.cons_append, escT_cons, ih, escT_cons b r, List.append_assoc]
theorem dl_byte {s : ByteArray} {i : Nat} (h : i < s.size) : dl (s.extract i (i + 1)) = [s[i]] ∧ (s.extract i (i + 1)).size = 1 ∧ (dl s).take (i + 1) = (dl s).take i ++ [s[i]] := by
  have hl : i < (dl s).length := by rw [dl_size]; exact h
  have hg : (dl s)[i] = s[i] := by
    have := dl_get h
    rw [List.getElem?_eq_getElem hl] at this
    exact Option.some.inj this
  have e1 : dl (s.extract i (i + 1)) = [s[i]] := by
    rw [dl_ext, List.drop_eq_getElem_cons hl, Nat.add_sub_cancel_left, hg]
    rfl
  refine ⟨e1, by rw [← dl_size, e1]; rfl, ?_⟩
  rw [← hg]
  exact List.take_succ_eq_append_getElem hl
theorem u8_eq {c : UInt8} {n : Nat} (h : c.toNat = n) : c = UInt8.ofNat n := by rw [← h]; exact (UInt8.ofNat_toNat).symm
theorem quo_two {s S : ByteArray} {i : Nat} (h : i < s.size) (hS : dl S = 34 :: escT ((dl s).take i)) (hz : S.size ≤ 1 + 2 * i) (hc : s[i].toNat = 34 ∨ s[i].toNat = 92) : (S ++ ⟨#[92]⟩ ++ s.extract i (i + 1)).size ≤ 1 + 2 * (i + 1) ∧ dl (S ++ ⟨#[92]⟩ ++ s.extract i (i + 1)) = 34 :: escT ((dl s).take (i + 1)) := by
  obtain ⟨e1, e2, e3⟩ := dl_byte h
  have e4 : dl (S ++ ⟨#[92]⟩ ++ s.extract i (i + 1)) = 34 :: escT ((dl s).take (i + 1)) := by
    rw [dl_app, dl_app, hS, e1, e3, escT_snoc]
    rcases hc with hc | hc
    · rw [u8_eq hc]; simp [dl]
    · rw [u8_eq hc]; simp [dl]
  refine ⟨?_, e4⟩
  rw [ByteArray.size_append, ByteArray.size_append, e2]
  show S.size + 1 + 1 ≤ _
  omega
theorem quo_one {s S : ByteArray} {i : Nat} (h : i < s.size) (hS : dl S = 34 :: escT ((dl s).take i)) (hz : S.size ≤ 1 + 2 * i) (hc : s[i].toNat ≠ 34) (hd : s[i].toNat ≠ 92) : (S ++ s.extract i (i + 1)).size ≤ 1 + 2 * (i + 1) ∧ dl (S ++ s.extract i (i + 1)) = 34 :: escT ((dl s).take (i + 1)) := by
  obtain ⟨e1, e2, e3⟩ := dl_byte h
  have n1 : ¬ s[i] = 92 := fun e => hd (by rw [e]; rfl)
  have n2 : ¬ s[i] = 34 := fun e => hc (by rw [e]; rfl)
  refine ⟨by rw [ByteArray.size_append, e2]; omega, ?_⟩
  rw [dl_app, hS, e1, e3, escT_snoc, if_neg n1, if_neg n2]
  rfl
theorem frac_at {r : List UInt8} (hl : r.length = 4) {j : Nat} (h1 : 1 ≤ j) (h4 : j ≤ 4) (hz : ∀ i, j ≤ i → i < 4 → r[i]? = some 48) (hend : j = 1 ∨ ∃ c, r[j - 1]? = some c ∧ c ≠ 48) : fracT r = r.take j := by
  match r, hl with
  | [a, b, c, d], _ =>
    rcases (show j = 1 ∨ j = 2 ∨ j = 3 ∨ j = 4 by omega) with rfl | rfl | rfl | rfl
    · have e1 := hz 1 (by omega) (by omega)
      have e2 := hz 2 (by omega) (by omega)
      have e3 := hz 3 (by omega) (by omega)
      simp at e1 e2 e3
      subst e1 e2 e3
      by_cases ha : a = 48
      · subst ha; rfl
      · simp [fracT, trimRightB, ha]
    · have e2 := hz 2 (by omega) (by omega)
      have e3 := hz 3 (by omega) (by omega)
      simp at e2 e3
      subst e2 e3
      obtain ⟨x, hx, hx2⟩ := hend.resolve_left (by omega)
      simp at hx
      subst hx
      simp [fracT, trimRightB, hx2]
    · have e3 := hz 3 (by omega) (by omega)
      simp at e3
      subst e3
      obtain ⟨x, hx, hx2⟩ := hend.resolve_left (by omega)
      simp at hx
      subst hx
      simp [fracT, trimRightB, hx2]
    · obtain ⟨x, hx, hx2⟩ := hend.resolve_left (by omega)
      simp at hx
      subst hx
      simp [fracT, trimRightB, hx2]
/-- A decimal's text, its last noughts taken off. -/
theorem dec_end {n : Int} {pd : ByteArray} {m : Nat} (hpd : dl pd = pad5 (decDigits n.natAbs)) (h1 : pd.size ≤ m + 4) (h2 : m < pd.size) (hz : ∀ i, m < i → i < pd.size → (dl pd)[i]? = some 48) (hend : m + 4 = pd.size ∨ ∃ c, (dl pd)[m]? = some c ∧ c ≠ 48) (b : ByteArray) (hb : dl b = if n < 0 then [45] else []) :
    dl (b ++ pd.extract 0 (pd.size - 4) ++ ⟨#[46]⟩ ++ pd.extract (pd.size - 4) (m + 1)) = decT n := by
  have h5 : 5 ≤ pd.size := by
    have := pad5_len (decDigits n.natAbs)
    rw [← hpd, dl_size] at this
    exact this
  rw [dl_app, dl_app, dl_app, dl_ext, dl_ext, hb]
  unfold decT
  rw [← hpd, dl_size, List.drop_zero, Nat.sub_zero]
  have hl : ((dl pd).drop (pd.size - 4)).length = 4 := by rw [List.length_drop, dl_size]; omega
  have := frac_at hl (j := m + 1 - (pd.size - 4)) (by omega) (by omega) (fun i q1 q2 => by
    rw [List.getElem?_drop]
    exact hz _ (by omega) (by omega)) (by
    rcases hend with q | ⟨c, q1, q2⟩
    · exact .inl (by omega)
    · refine .inr ⟨c, ?_, q2⟩
      rw [List.getElem?_drop, ← q1]
      congr 1
      omega)
  rw [this]
  simp [dl]
theorem slice_to (s : ByteArray) (j : Int) (h0 : 0 ≤ j) (h1 : j ≤ (s.size : Int)) (W : World) : (Instr.slice 9 (.string s) none (some (.int .i64 j)) none).run Tryz.prog W = .ok (.string (s.extract 0 j.toNat)) W :=
  run_slice_string_h W 9 s Tryz.underlying9 .i64 j h0 h1
theorem slice_mid (s : ByteArray) (i j : Int) (h0 : 0 ≤ i) (h1 : i ≤ j) (h2 : j ≤ (s.size : Int)) (W : World) : (Instr.slice 9 (.string s) (some (.int .i64 i)) (some (.int .i64 j)) none).run Tryz.prog W = .ok (.string (s.extract i.toNat j.toNat)) W :=
  run_slice_string W 9 s .i64 .i64 i j Tryz.underlying9 h0 h1 h2
set_option maxRecDepth 100000 in
set_option maxHeartbeats 4000000 in
theorem rtext_any (v : Vl) (w : World) (hv : v.fit) :
    Calls Tryz.prog 16 #[.agg #[.int .u8 v.k, .int .i64 v.n, .string v.s]] w fun e w' => e = .returned (.string (txtB v)) ∧ Below w.heap.size w w' := by
  obtain ⟨h1, h2, h3⟩ := hv
  have hbA : Below w.heap.size w (w.alloc (.cells #[.int .u8 v.k, .int .i64 v.n, .string v.s] 23)) := (Below.refl w.heap.size w).alloc (Nat.le_refl _) _
  have hm := rmay_any v h1 (w.alloc (.cells #[.int .u8 v.k, .int .i64 v.n, .string v.s] 23))
  have hbx := (MapKept.heap_alloc w (.cells #[.int .u8 v.k, .int .i64 v.n, .string v.s] 23)).1
  rw [mayB_L] at hm
  unfold txtB txtM
  obtain ⟨k, n, s⟩ := v
  simp only at *
  have hbb : ∀ V, Below (w.heap.size + 1) (w.alloc (.cells #[.int .u8 k, .int .i64 n, .string s] 23)) V → V.heap[w.heap.size]? = some (.cells #[.int .u8 k, .int .i64 n, .string s] 23 (0, 0)) ∧ Below w.heap.size w V := fun V hV => by
    have hz : (w.alloc (.cells #[.int .u8 k, .int .i64 n, .string s] 23)).heap.size = w.heap.size + 1 := by simp
    exact ⟨(hV.block w.heap.size (by omega)).trans hbx, hbA.trans (hV.mono (by omega))⟩
  have Hbb := hide hbb
  have hz : (w.alloc (.cells #[.int .u8 k, .int .i64 n, .string s] 23)).heap.size = w.heap.size + 1 := by simp
  have Hm := hide hm
  have c0 : (w.alloc (.cells #[.int .u8 k, .int .i64 n, .string s] 23)).cell? ⟨w.heap.size, 0, none⟩ = some (.int .u8 k) := by simp only [World.cell?, hbx]; rfl
  have c1 : (w.alloc (.cells #[.int .u8 k, .int .i64 n, .string s] 23)).cell? ⟨w.heap.size, 1, none⟩ = some (.int .i64 n) := by simp only [World.cell?, hbx]; rfl
  have c2 : (w.alloc (.cells #[.int .u8 k, .int .i64 n, .string s] 23)).cell? ⟨w.heap.size, 2, none⟩ = some (.string s) := by simp only [World.cell?, hbx]; rfl
  cases hmy : mayL k n (dl s) with
  | false =>
    rw [hmy] at Hm
    simp only [Bool.false_eq_true, if_false]
    clear hm hbx hbA hbb hz hmy
    go_enter Tryz.func16, Tryz.ntmps16
    go_wp2_with fail
    (with_reducible refine Hm.out.mono ?_)
    rintro e W ⟨rfl, hb⟩
    rw [show (w.alloc (.cells #[.int .u8 k, .int .i64 n, .string s] 23)).heap.size = w.heap.size + 1 by simp] at hb
    have HB := hide (Hbb.out W hb).2
    clear hb
    go_wp2
    go_ret
    exact ⟨rfl, HB.out⟩
  | true =>
    rw [hmy] at Hm
    simp only [if_true]
    have Hmy := hide (mayL_cases hmy)
    clear hm hbx hbA hbb hz hmy
    go_enter Tryz.func16, Tryz.ntmps16
    go_wp2_with fail
    (with_reducible refine Hm.out.mono ?_)
    rintro e W ⟨rfl, hb⟩
    rw [show (w.alloc (.cells #[.int .u8 k, .int .i64 n, .string s] 23)).heap.size = w.heap.size + 1 by simp] at hb
    obtain ⟨hx, hbW⟩ := Hbb.out W hb
    have HX := hide hx
    have d0 : W.cell? ⟨w.heap.size, 0, none⟩ = some (.int .u8 k) := by simp only [World.cell?, hx]; rfl
    have d1 : W.cell? ⟨w.heap.size, 1, none⟩ = some (.int .i64 n) := by simp only [World.cell?, hx]; rfl
    have d2 : W.cell? ⟨w.heap.size, 2, none⟩ = some (.string s) := by simp only [World.cell?, hx]; rfl
    have HbW := hide hbW
    have HOf := hide (of_num (w := W) n h2 h3)
    clear hb c0 c1 c2 Hm Hbb hx hbW
    go_wp2_with fail
    (with_reducible refine HOf.out.mono ?_)
    rintro e W2 ⟨⟨x, rfl, hn⟩, hb2⟩
    obtain ⟨ax, cx, rfl, hd⟩ := hn.form
    obtain ⟨nx, hnx⟩ : ∃ m, lenD n.natAbs = m := ⟨_, rfl⟩
    rw [hnx] at hd ⊢
    obtain ⟨nb, hnb⟩ : ∃ b, decide (n < 0) = b := ⟨_, rfl⟩
    rw [hnb]
    have hx2 := (hb2.block _ (lt_of_heap HX.out)).trans HX.out
    have d0 : W2.cell? ⟨w.heap.size, 0, none⟩ = some (.int .u8 k) := by simp only [World.cell?, hx2]; rfl
    have d1 : W2.cell? ⟨w.heap.size, 1, none⟩ = some (.int .i64 n) := by simp only [World.cell?, hx2]; rfl
    have d2 : W2.cell? ⟨w.heap.size, 2, none⟩ = some (.string s) := by simp only [World.cell?, hx2]; rfl
    have HB2 := hide (HbW.out.trans (hb2.mono HbW.out.size))
    clear hn hb2 hx2 HOf
    have hA := (Below.refl W2.heap.size W2).alloc (Nat.le_refl _) (.cells #[.bool nb, .slice ax nx cx] 79)
    have e0 := bcell hA d0
    have e1 := bcell hA d1
    have e2 := bcell hA d2
    have HBA := hide (HB2.out.trans (hA.mono HB2.out.size))
    clear hA
    rcases Hmy.out with ⟨rfl, rfl, hs⟩ | ⟨rfl, hs⟩ | ⟨rfl, hs⟩ | ⟨rfl, rfl, hl, hp⟩ | ⟨rfl, hs, hn⟩ | ⟨rfl, rfl, hn⟩
    · clear hs
      obtain rfl : nb = false := by rw [← hnb]; rfl
      clear hnb
      go_wp2_with fail
      go_ret
      exact ⟨rfl, HBA.out⟩
    · have hdg := (rdigits_any (w := W2.alloc (.cells #[.bool nb, .slice ax nx cx] 79)) nb (hd.below ((Below.refl _ _).alloc (Nat.le_refl _) _)) (dg_len20 (by omega)) 1 (by decide))
      have HDG : Hid (Calls Tryz.prog 48 #[.agg #[.bool nb, .slice ax nx cx], .int .i64 1] (W2.alloc (.cells #[.bool nb, .slice ax nx cx] 79)) _) := hide hdg
      have HD5 : Hid ((padD n.natAbs 1).length ≤ 30) := hide (padD_short (dg_len20 (by omega)) (by decide))
      have HIT : Hid (dl ((if nb = true then (⟨#[45]⟩ : ByteArray) else ⟨#[]⟩) ++ ⟨(padD n.natAbs 1).toArray⟩) = dl ⟨(txtL 1 n (dl s)).toArray⟩) := hide (by
        rw [dl_app, dl_mk, dl_mk, padD_one, ← hnb]
        simp only [txtL, if_true, itoa]
        by_cases h : n < 0
        · simp [h, dl]
        · rw [show n.natAbs = n.toNat by omega]; simp [h, dl])
      obtain ⟨pd, hpd⟩ : ∃ pd : ByteArray, ⟨(padD n.natAbs 1).toArray⟩ = pd := ⟨_, rfl⟩
      rw [hpd] at HDG HIT
      have hpl : pd.size ≤ 30 := by rw [← hpd, ← dl_size, dl_mk]; exact HD5.out
      clear hs hdg hd hpd HD5
      cases nb with
      | false =>
        clear hnb
        go_wp2_with fail
        (with_reducible refine HDG.out.mono ?_)
        rintro e W3 ⟨rfl, hb3⟩
        have HB3 := hide (HBA.out.trans (hb3.mono HBA.out.size))
        clear hb3
        go_wp2_with fail
        go_ret
        exact ⟨ret_str HIT.out, HB3.out⟩
      | true =>
        clear hnb
        go_wp2_with fail
        (with_reducible refine HDG.out.mono ?_)
        rintro e W3 ⟨rfl, hb3⟩
        have HB3 := hide (HBA.out.trans (hb3.mono HBA.out.size))
        clear hb3
        go_wp2_with fail
        go_ret
        exact ⟨ret_str HIT.out, HB3.out⟩
    · have hdg := (rdigits_any (w := W2.alloc (.cells #[.bool nb, .slice ax nx cx] 79)) nb (hd.below ((Below.refl _ _).alloc (Nat.le_refl _) _)) (dg_len20 (by omega)) 5 (by decide))
      have HDG : Hid (Calls Tryz.prog 48 #[.agg #[.bool nb, .slice ax nx cx], .int .i64 5] (W2.alloc (.cells #[.bool nb, .slice ax nx cx] 79)) _) := hide hdg
      obtain ⟨pd, hpd⟩ : ∃ pd : ByteArray, ⟨(padD n.natAbs 5).toArray⟩ = pd := ⟨_, rfl⟩
      have hpl : pd.size ≤ 30 := by rw [← hpd, ← dl_size, dl_mk]; exact padD_short (dg_len20 (by omega)) (by decide)
      have hpe : dl pd = pad5 (decDigits n.natAbs) := by rw [← hpd, dl_mk, padD_five]
      have hp5 : 5 ≤ pd.size := by
        have := pad5_len (decDigits n.natAbs)
        rw [← hpe, dl_size] at this
        exact this
      have HDC : Hid (∀ m, pd.size ≤ m + 4 → m < pd.size → (∀ i, m < i → i < pd.size → (dl pd)[i]? = some 48) → (m + 4 = pd.size ∨ ∃ c, (dl pd)[m]? = some c ∧ c ≠ 48) → dl ((if nb = true then (⟨#[45]⟩ : ByteArray) else ⟨#[]⟩) ++ pd.extract 0 (pd.size - 4) ++ ⟨#[46]⟩ ++ pd.extract (pd.size - 4) (m + 1)) = dl ⟨(txtL 2 n (dl s)).toArray⟩) := hide fun m q1 q2 q3 q4 => by
        rw [dec_end hpe q1 q2 q3 q4 _ (by rw [← hnb]; by_cases h : n < 0 <;> simp [h, dl]), dl_mk]
        rfl
      rw [hpd] at HDG
      clear hs hdg hd hpd hpe
      cases nb with
      | false =>
        clear hnb
        go_wp2_with fail
        (with_reducible refine HDG.out.mono ?_)
        rintro e W3 ⟨rfl, hb3⟩
        have HB3 := hide (HBA.out.trans (hb3.mono HBA.out.size))
        clear hb3
        go_wp2_with fail
        go_loop [6] (fun v6 => ∃ m : Nat, v6 = .int .i64 ((m : Int) + 1) ∧ pd.size ≤ m + 4 ∧ m < pd.size ∧ Hid (∀ i, m < i → i < pd.size → (dl pd)[i]? = some 48)) (fun v6 => (intOf v6).toNat)
        case atStart => exact ⟨pd.size - 1, by (congr 1; omega), by omega, by omega, hide (fun i h1 h2 => by omega)⟩
        case round =>
          obtain ⟨m, rfl, hm4, hmp, hz⟩ := hrel
          have q0 : (0 : Int) ≤ (m : Int) := by omega
          have q1 : (m : Int) < (pd.size : Int) := by omega
          have hg : (dl pd)[m]? = some pd[m] := dl_get hmp
          by_cases hgo : pd.size ≤ m + 3
          · have p1 : decide ((pd.size : Int) - 3 < (m : Int) + 1) = true := decide_eq_true (by omega)
            by_cases h48 : pd[m].toNat = 48
            · have d1 : ((pd[m].toNat : Int) == 48) = true := beq_iff_eq.2 (by omega)
              have e48 : pd[m] = 48 := u8_eq h48
              have HZ := hide (show ∀ i, m - 1 < i → i < pd.size → (dl pd)[i]? = some 48 from fun i q1 q2 => by
                rcases Nat.lt_or_ge m i with q | q
                · exact hz.out i q q2
                · have : i = m := by omega
                  rw [this, hg, e48])
              clear hz hg e48
              go_wp2_with fail
              go_round
              case rel => exact ⟨m - 1, by (congr 1; omega), by omega, by omega, HZ⟩
              case measure => simp [intOf] <;> omega
            · have d1 : ((pd[m].toNat : Int) == 48) = false := beq_eq_false_iff_ne.2 (by omega)
              have HE := hide (HDC.out m hm4 hmp hz.out (.inr ⟨_, hg, fun e => h48 (by rw [e]; rfl)⟩))
              clear hz hg
              go_wp2_with fail
              have w1 : IntKind.i64.wrap ((pd.size : Int) - 4) = (pd.size : Int) - 4 := IntWalk.i64_in _ (by omega)
              have hs1 := slice_to pd ((pd.size : Int) - 4) (by omega) (by omega)
              have hs2 := slice_mid pd ((pd.size : Int) - 4) ((m : Int) + 1) (by omega) (by omega) (by omega)
              have t1 : ((pd.size : Int) - 4).toNat = pd.size - 4 := by omega
              have t2 : ((m : Int) + 1).toNat = m + 1 := by omega
              rw [t1] at hs1
              rw [t1, t2] at hs2
              obtain ⟨A, hA⟩ : ∃ A, pd.extract 0 (pd.size - 4) = A := ⟨_, rfl⟩
              obtain ⟨B, hB⟩ : ∃ B, pd.extract (pd.size - 4) (m + 1) = B := ⟨_, rfl⟩
              have hAs : A.size ≤ 30 := by rw [← hA, ByteArray.size_extract]; omega
              have hBs : B.size ≤ 30 := by rw [← hB, ByteArray.size_extract]; omega
              rw [hA] at hs1 HE
              rw [hB] at hs2 HE
              clear t1 t2 hpl hA hB
              go_quiet (fail)
              go_wp2_with fail
              go_ret
              exact ⟨ret_str HE.out, below_drewN HB3.out _⟩
          · have p1 : decide ((pd.size : Int) - 3 < (m : Int) + 1) = false := decide_eq_false (by omega)
            have HE := hide (HDC.out m hm4 hmp hz.out (.inl (by omega)))
            clear hz hg
            go_wp2_with fail
            have w1 : IntKind.i64.wrap ((pd.size : Int) - 4) = (pd.size : Int) - 4 := IntWalk.i64_in _ (by omega)
            have hs1 := slice_to pd ((pd.size : Int) - 4) (by omega) (by omega)
            have hs2 := slice_mid pd ((pd.size : Int) - 4) ((m : Int) + 1) (by omega) (by omega) (by omega)
            have t1 : ((pd.size : Int) - 4).toNat = pd.size - 4 := by omega
            have t2 : ((m : Int) + 1).toNat = m + 1 := by omega
            rw [t1] at hs1
            rw [t1, t2] at hs2
            obtain ⟨A, hA⟩ : ∃ A, pd.extract 0 (pd.size - 4) = A := ⟨_, rfl⟩
            obtain ⟨B, hB⟩ : ∃ B, pd.extract (pd.size - 4) (m + 1) = B := ⟨_, rfl⟩
            have hAs : A.size ≤ 30 := by rw [← hA, ByteArray.size_extract]; omega
            have hBs : B.size ≤ 30 := by rw [← hB, ByteArray.size_extract]; omega
            rw [hA] at hs1 HE
            rw [hB] at hs2 HE
            clear t1 t2 hpl hA hB
            go_quiet (fail)
            go_wp2_with fail
            go_ret
            exact ⟨ret_str HE.out, below_drewN HB3.out _⟩
      | true =>
        clear hnb
        go_wp2_with fail
        (with_reducible refine HDG.out.mono ?_)
        rintro e W3 ⟨rfl, hb3⟩
        have HB3 := hide (HBA.out.trans (hb3.mono HBA.out.size))
        clear hb3
        go_wp2_with fail
        go_loop [6] (fun v6 => ∃ m : Nat, v6 = .int .i64 ((m : Int) + 1) ∧ pd.size ≤ m + 4 ∧ m < pd.size ∧ Hid (∀ i, m < i → i < pd.size → (dl pd)[i]? = some 48)) (fun v6 => (intOf v6).toNat)
        case atStart => exact ⟨pd.size - 1, by (congr 1; omega), by omega, by omega, hide (fun i h1 h2 => by omega)⟩
        case round =>
          obtain ⟨m, rfl, hm4, hmp, hz⟩ := hrel
          have q0 : (0 : Int) ≤ (m : Int) := by omega
          have q1 : (m : Int) < (pd.size : Int) := by omega
          have hg : (dl pd)[m]? = some pd[m] := dl_get hmp
          by_cases hgo : pd.size ≤ m + 3
          · have p1 : decide ((pd.size : Int) - 3 < (m : Int) + 1) = true := decide_eq_true (by omega)
            by_cases h48 : pd[m].toNat = 48
            · have d1 : ((pd[m].toNat : Int) == 48) = true := beq_iff_eq.2 (by omega)
              have e48 : pd[m] = 48 := u8_eq h48
              have HZ := hide (show ∀ i, m - 1 < i → i < pd.size → (dl pd)[i]? = some 48 from fun i q1 q2 => by
                rcases Nat.lt_or_ge m i with q | q
                · exact hz.out i q q2
                · have : i = m := by omega
                  rw [this, hg, e48])
              clear hz hg e48
              go_wp2_with fail
              go_round
              case rel => exact ⟨m - 1, by (congr 1; omega), by omega, by omega, HZ⟩
              case measure => simp [intOf] <;> omega
            · have d1 : ((pd[m].toNat : Int) == 48) = false := beq_eq_false_iff_ne.2 (by omega)
              have HE := hide (HDC.out m hm4 hmp hz.out (.inr ⟨_, hg, fun e => h48 (by rw [e]; rfl)⟩))
              clear hz hg
              go_wp2_with fail
              have w1 : IntKind.i64.wrap ((pd.size : Int) - 4) = (pd.size : Int) - 4 := IntWalk.i64_in _ (by omega)
              have hs1 := slice_to pd ((pd.size : Int) - 4) (by omega) (by omega)
              have hs2 := slice_mid pd ((pd.size : Int) - 4) ((m : Int) + 1) (by omega) (by omega) (by omega)
              have t1 : ((pd.size : Int) - 4).toNat = pd.size - 4 := by omega
              have t2 : ((m : Int) + 1).toNat = m + 1 := by omega
              rw [t1] at hs1
              rw [t1, t2] at hs2
              obtain ⟨A, hA⟩ : ∃ A, pd.extract 0 (pd.size - 4) = A := ⟨_, rfl⟩
              obtain ⟨B, hB⟩ : ∃ B, pd.extract (pd.size - 4) (m + 1) = B := ⟨_, rfl⟩
              have hAs : A.size ≤ 30 := by rw [← hA, ByteArray.size_extract]; omega
              have hBs : B.size ≤ 30 := by rw [← hB, ByteArray.size_extract]; omega
              rw [hA] at hs1 HE
              rw [hB] at hs2 HE
              clear t1 t2 hpl hA hB
              go_quiet (fail)
              go_wp2_with fail
              go_ret
              exact ⟨ret_str HE.out, below_drewN HB3.out _⟩
          · have p1 : decide ((pd.size : Int) - 3 < (m : Int) + 1) = false := decide_eq_false (by omega)
            have HE := hide (HDC.out m hm4 hmp hz.out (.inl (by omega)))
            clear hz hg
            go_wp2_with fail
            have w1 : IntKind.i64.wrap ((pd.size : Int) - 4) = (pd.size : Int) - 4 := IntWalk.i64_in _ (by omega)
            have hs1 := slice_to pd ((pd.size : Int) - 4) (by omega) (by omega)
            have hs2 := slice_mid pd ((pd.size : Int) - 4) ((m : Int) + 1) (by omega) (by omega) (by omega)
            have t1 : ((pd.size : Int) - 4).toNat = pd.size - 4 := by omega
            have t2 : ((m : Int) + 1).toNat = m + 1 := by omega
            rw [t1] at hs1
            rw [t1, t2] at hs2
            obtain ⟨A, hA⟩ : ∃ A, pd.extract 0 (pd.size - 4) = A := ⟨_, rfl⟩
            obtain ⟨B, hB⟩ : ∃ B, pd.extract (pd.size - 4) (m + 1) = B := ⟨_, rfl⟩
            have hAs : A.size ≤ 30 := by rw [← hA, ByteArray.size_extract]; omega
            have hBs : B.size ≤ 30 := by rw [← hB, ByteArray.size_extract]; omega
            rw [hA] at hs1 HE
            rw [hB] at hs2 HE
            clear t1 t2 hpl hA hB
            go_quiet (fail)
            go_wp2_with fail
            go_ret
            exact ⟨ret_str HE.out, below_drewN HB3.out _⟩
    · rw [dl_size] at hl
      obtain rfl : nb = false := by rw [← hnb]; rfl
      clear hnb hp
      go_wp2_with fail
      go_loop [7, 8] (fun v7 v8 => ∃ (i : Nat) (S : ByteArray), i ≤ s.size ∧ v8 = .int .i64 i ∧ v7 = .string S ∧ S.size ≤ 1 + 2 * i ∧ Hid (dl S = 34 :: escT ((dl s).take i))) (fun _ v8 => s.size - (intOf v8).toNat)
      case atStart => exact ⟨0, ⟨#[34]⟩, Nat.zero_le _, rfl, rfl, by decide, hide rfl⟩
      case round =>
        obtain ⟨i, S, hi, rfl, rfl, hS, hq⟩ := hrel
        by_cases hil : i < s.size
        · have p0 : decide ((i : Int) < (s.size : Int)) = true := decide_eq_true (by omega)
          have q0 : (0 : Int) ≤ (i : Int) := by omega
          have q1 : (i : Int) < (s.size : Int) := by omega
          by_cases h34 : s[i].toNat = 34
          · have d1 : ((s[i].toNat : Int) == 34) = true := beq_iff_eq.2 (by omega)
            have d2 : (s[i].toNat : Int) = 34 := by omega
            have HN := hide (quo_two hil hq.out hS (.inl h34))
            clear hq
            go_wp2_with fail
            go_round
            case rel => exact ⟨i + 1, _, by omega, by go_num, rfl, HN.out.1, hide HN.out.2⟩
            case measure => simp [intOf]; omega
          · have d1 : ((s[i].toNat : Int) == 34) = false := beq_eq_false_iff_ne.2 (by omega)
            by_cases h92 : s[i].toNat = 92
            · have d2 : ((s[i].toNat : Int) == 92) = true := beq_iff_eq.2 (by omega)
              have HN := hide (quo_two hil hq.out hS (.inr h92))
              clear hq
              go_wp2_with fail
              go_round
              case rel => exact ⟨i + 1, _, by omega, by go_num, rfl, HN.out.1, hide HN.out.2⟩
              case measure => simp [intOf]; omega
            · have d2 : ((s[i].toNat : Int) == 92) = false := beq_eq_false_iff_ne.2 (by omega)
              have HN := hide (quo_one hil hq.out hS h34 h92)
              clear hq
              go_wp2_with fail
              go_round
              case rel => exact ⟨i + 1, _, by omega, by go_num, rfl, HN.out.1, hide HN.out.2⟩
              case measure => simp [intOf]; omega
        · obtain rfl : i = s.size := by omega
          have p0 : decide ((s.size : Int) < (s.size : Int)) = false := decide_eq_false (by omega)
          have HN : Hid (dl (S ++ ⟨#[34]⟩) = dl ⟨(txtL 3 0 (dl s)).toArray⟩) := hide (by
            rw [dl_app, hq.out, dl_mk, ← dl_size, List.take_length]
            simp [txtL, quoT, dl])
          clear hq
          go_wp2_with fail
          go_ret
          exact ⟨ret_str HN.out, HBA.out⟩
    · clear hs
      rcases hn with rfl | rfl
      · obtain rfl : nb = false := by rw [← hnb]; rfl
        clear hnb
        go_wp2_with fail
        go_ret
        exact ⟨rfl, HBA.out⟩
      · obtain rfl : nb = false := by rw [← hnb]; rfl
        clear hnb
        go_wp2_with fail
        go_ret
        exact ⟨rfl, HBA.out⟩
    · have hs12 : s.size ≤ 12 := by rw [← dl_size]; exact (nameL_facts hn).2.1
      obtain rfl : nb = false := by rw [← hnb]; rfl
      clear hnb hn
      go_wp2_with fail
      go_ret
      exact ⟨ret_str (by rw [dl_app]; rfl), HBA.out⟩
end Go.Proofs.YtgfakdobajgnfaaGreatDoor
