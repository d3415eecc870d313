/- vtext: quoted, Text. -/
import Derived.Test.YtkjndabbkfbkaaaGreatDoorVt1
import Derived.Lib.ReplaceLaws
namespace Go.Proofs.YtkjndabbkfbkaaaGreatDoor
open Go Go.RowKit Go.Lib Go.Sort Go.Shelf

theorem quoted_any (s : ByteArray) (w : World) (hs : s.size ≤ 200) (hR : Rd w) :
    Calls Tryz.prog 121 #[.string s] w fun e w' => e = .returned (.string ⟨(quoT (dl s)).toArray⟩) ∧ Below w.heap.size w w' := by
  obtain ⟨m, hm⟩ := hR.ml
  have c1 := countB_mul_le ⟨#[92]⟩ (by decide) s.size s (Nat.le_refl _)
  have hf := Tryz.strings_ReplaceAll s ⟨#[92]⟩ ⟨#[92, 92]⟩ m w (by omega) hm (by decide) (by
    have e1 : (⟨#[92]⟩ : ByteArray).size = 1 := rfl
    have e2 : (⟨#[92, 92]⟩ : ByteArray).size = 2 := rfl
    rw [e1] at c1
    rw [e2]
    omega)
  have er : replaceAll (dl s) [92] [92, 92] = repB 92 [92, 92] (dl s) := replaceAll_one 92 [92, 92] _ (by decide)
  obtain ⟨S, hS⟩ : ∃ S : ByteArray, (⟨(replaceAll (dl s) [92] [92, 92]).toArray⟩ : ByteArray) = S := ⟨_, rfl⟩
  have hSd : dl S = repB 92 [92, 92] (dl s) := by rw [← hS, dl_mk, er]
  have hSl : S.size ≤ 400 := by
    rw [← dl_size, hSd, ← dl_size] at *
    unfold repB
    rw [List.length_flatMap]
    have : ∀ l : List UInt8, (l.map fun b => (if b = 92 then [92, 92] else [b]).length).sum ≤ 2 * l.length := fun l => by
      induction l with
      | nil => simp
      | cons b l ih =>
        rw [List.map_cons, List.sum_cons, List.length_cons]
        have : (if b = 92 then [92, 92] else [b]).length ≤ 2 := by split <;> simp
        omega
    have := this (dl s)
    omega
  have e0 : (⟨((replaceAll s.data.toList (⟨#[92]⟩ : ByteArray).data.toList (⟨#[92, 92]⟩ : ByteArray).data.toList)).toArray⟩ : ByteArray) = S := hS
  rw [e0] at hf
  have c2 := countB_mul_le ⟨#[34]⟩ (by decide) S.size S (Nat.le_refl _)
  have hg := fun V (hV : Below w.heap.size w V) => Tryz.strings_ReplaceAll S ⟨#[34]⟩ ⟨#[92, 34]⟩ m V (by omega) (bcell hV hm) (by decide) (by
    have e1 : (⟨#[34]⟩ : ByteArray).size = 1 := rfl
    have e2 : (⟨#[92, 34]⟩ : ByteArray).size = 2 := rfl
    rw [e1] at c2
    rw [e2]
    omega)
  obtain ⟨T, hT⟩ : ∃ T : ByteArray, (⟨(replaceAll (dl S) [34] [92, 34]).toArray⟩ : ByteArray) = T := ⟨_, rfl⟩
  have e3 : (⟨((replaceAll S.data.toList (⟨#[34]⟩ : ByteArray).data.toList (⟨#[92, 34]⟩ : ByteArray).data.toList)).toArray⟩ : ByteArray) = T := hT
  simp only [e3] at hg
  have hTd : dl T = escT (dl s) := by rw [← hT, dl_mk, replaceAll_one 34 [92, 34] _ (by decide), hSd]; rfl
  have hTl : T.size ≤ 800 := by
    rw [← dl_size, ← hT, dl_mk, replaceAll_one 34 [92, 34] _ (by decide)]
    unfold repB
    rw [List.length_flatMap]
    have : ∀ l : List UInt8, (l.map fun b => (if b = 34 then [92, 34] else [b]).length).sum ≤ 2 * l.length := fun l => by
      induction l with
      | nil => simp
      | cons b l ih =>
        rw [List.map_cons, List.sum_cons, List.length_cons]
        have : (if b = 34 then [92, 34] else [b]).length ≤ 2 := by split <;> simp
        omega
    have := this (dl S)
    rw [dl_size] at this
    omega
  have Hf := hide hf
  have Hg := hide hg
  have HT := hide hTd
  clear hf hg hTd hT e3 e0 hS hSd er c1 c2 hR hm
  go_enter Tryz.func121, Tryz.ntmps121
  go_wp2_with fail
  (with_reducible refine Hf.out.mono ?_)
  rintro e W ⟨rfl, hb⟩
  go_wp2_with fail
  (with_reducible refine (Hg.out W hb).mono ?_)
  rintro e W2 ⟨rfl, hb2⟩
  have HB := hide (hb.trans (hb2.mono hb.size))
  clear hb hb2
  go_wp2
  go_ret
  exact ⟨ret_str (by rw [dl_app, dl_app, HT.out, dl_mk]; rfl), HB.out⟩

theorem nameB_L (s : ByteArray) : nameB s = nameL (dl s) := by
  unfold nameB nameL
  have hl := dl_size s
  cases h : s.data.toList with
  | nil => simp [dl, h]
  | cons c r =>
    have e : dl s = c :: r := h
    rw [e] at hl ⊢
    simp only [List.length_cons] at hl
    have h1 : decide (s.size ≤ 12) = decide (r.length < 12) := by
      rw [← hl]
      exact decide_eq_decide.2 (by omega)
    have h2 : isLow c.toNat = lowC c := by simp [isLow, lowC]
    have h3 : (!r.any fun b => badN b.toNat) = r.all fun b => lowC b || digC b := by
      rw [List.not_any_eq_all_not]
      congr 1
      funext b
      simp [badN, isLow, isDig, lowC, digC]
    simp only [h1, h2, h3]
theorem textB_L (s : ByteArray) : textB s = textL (dl s) := by
  unfold textB textL
  rw [dl_size]
  congr 1
  rw [List.not_any_eq_all_not]
  congr 1
  funext b
  simp only [badT, priC]
  by_cases h1 : b.toNat < 32 ∨ 126 < b.toNat
  · rw [decide_eq_true h1]
    by_cases h2 : 32 ≤ b.toNat
    · have h3 : ¬ b.toNat ≤ 126 := by omega
      simp [h3]
    · simp [h2]
  · have h2 : 32 ≤ b.toNat := by omega
    have h3 : b.toNat ≤ 126 := by omega
    rw [decide_eq_false h1]
    simp [h2, h3]
theorem mayB_L (v : Vl) : mayB v = mayL v.k v.n (dl v.s) := by
  have he : decide (v.s.size = 0) = (dl v.s).isEmpty := by
    rw [← dl_size]
    cases dl v.s <;> simp
  unfold mayB mayL
  rw [he, nameB_L, textB_L]
/-- The text of a value. -/
def txtB (v : Vl) : ByteArray := ⟨(txtM v.k v.n (dl v.s)).toArray⟩
/-- A value whose number is an int64. -/
def Vl.fit (v : Vl) : Prop := v.s.size ≤ 9223372036854775807 ∧ -9223372036854775808 ≤ v.n ∧ v.n ≤ 9223372036854775807

set_option maxRecDepth 100000 in
set_option maxHeartbeats 1000000 in
theorem text_any (v : Vl) (w : World) (hv : v.fit) (hR : Rd w) :
    Calls Tryz.prog 87 #[.agg #[.int .u8 v.k, .int .i64 v.n, .string v.s]] w fun e w' => e = .returned (.string (txtB v)) ∧ Below w.heap.size w w' := by
  obtain ⟨h1, h2, h3⟩ := hv
  have hbA : Below w.heap.size w (w.alloc (.cells #[.int .u8 v.k, .int .i64 v.n, .string v.s] 32)) := (Below.refl w.heap.size w).alloc (Nat.le_refl _) _
  have hm := may_any v h1 (w.alloc (.cells #[.int .u8 v.k, .int .i64 v.n, .string v.s] 32))
  have hbx := (MapKept.heap_alloc w (.cells #[.int .u8 v.k, .int .i64 v.n, .string v.s] 32)).1
  rw [mayB_L] at hm
  unfold txtB txtM
  obtain ⟨k, n, s⟩ := v
  simp only at *
  have hbb : ∀ V, Below (w.heap.size + 1) (w.alloc (.cells #[.int .u8 k, .int .i64 n, .string s] 32)) V → V.cell? ⟨w.heap.size, 0, none⟩ = some (.int .u8 k) ∧ V.cell? ⟨w.heap.size, 1, none⟩ = some (.int .i64 n) ∧ V.cell? ⟨w.heap.size, 2, none⟩ = some (.string s) ∧ Below w.heap.size w V ∧ Rd V := fun V hV => by
    have hz : (w.alloc (.cells #[.int .u8 k, .int .i64 n, .string s] 32)).heap.size = w.heap.size + 1 := by simp
    have hb := (hV.block w.heap.size (by omega)).trans hbx
    have hbe := hbA.trans (hV.mono (by omega))
    exact ⟨by simp [World.cell?, hb], by simp [World.cell?, hb], by simp [World.cell?, hb], hbe, hR.below hbe⟩
  have Hbb := hide hbb
  have hz : (w.alloc (.cells #[.int .u8 k, .int .i64 n, .string s] 32)).heap.size = w.heap.size + 1 := by simp
  rw [hz] at hm
  have Hm := hide hm
  obtain ⟨c0, c1, c2, _, _⟩ := hbb (w.alloc (.cells #[.int .u8 k, .int .i64 n, .string s] 32)) (Below.refl _ _)
  cases hmy : mayL k n (dl s) with
  | false =>
    rw [hmy] at Hm
    simp only [Bool.false_eq_true, if_false]
    clear hm hbx hbA hbb hR hz hmy
    go_enter Tryz.func87, Tryz.ntmps87
    go_wp2_with fail
    (with_reducible refine Hm.out.mono ?_)
    rintro e W ⟨rfl, hb⟩
    have HB := hide (Hbb.out W hb).2.2.2.1
    clear hb
    go_wp2
    go_ret
    exact ⟨rfl, HB.out⟩
  | true =>
    rw [hmy] at Hm
    simp only [if_true]
    have Hmy := hide (mayL_cases hmy)
    clear hm hbx hbA hbb hR hz hmy
    go_enter Tryz.func87, Tryz.ntmps87
    go_wp2_with fail
    (with_reducible refine Hm.out.mono ?_)
    rintro e W ⟨rfl, hb⟩
    obtain ⟨d0, d1, d2, hbW, hRW⟩ := Hbb.out W hb
    clear hb c0 c1 c2 Hm Hbb
    have HbW := hide hbW
    rcases Hmy.out with ⟨rfl, rfl, hs⟩ | ⟨rfl, hs⟩ | ⟨rfl, hs⟩ | ⟨rfl, rfl, hl, hp⟩ | ⟨rfl, hs, hn⟩ | ⟨rfl, rfl, hn⟩
    · clear hbW hRW hs
      go_wp2
      go_ret
      exact ⟨rfl, HbW.out⟩
    · have Hf := hide (Tryz.strconv_FormatInt_10 n h2 h3 W hRW.tab)
      clear hbW hRW hs
      go_wp2_with fail
      (with_reducible refine Hf.out.mono ?_)
      rintro e W2 ⟨rfl, q, os, hW⟩
      have HB := hide (HbW.out.trans ((by rw [hW]; exact below_grow W q os : Below W.heap.size W W2).mono HbW.out.size))
      clear hW
      go_wp2
      go_ret
      exact ⟨rfl, HB.out⟩
    · have Hf := hide (decimal_any n W h2 h3 hRW)
      clear hbW hRW hs
      go_wp2_with fail
      (with_reducible refine Hf.out.mono ?_)
      rintro e W2 ⟨rfl, hb2⟩
      have HB := hide (HbW.out.trans (hb2.mono HbW.out.size))
      clear hb2
      go_wp2
      go_ret
      exact ⟨rfl, HB.out⟩
    · rw [dl_size] at hl
      have Hf := hide (quoted_any s W hl hRW)
      clear hbW hRW hp hl
      go_wp2_with fail
      (with_reducible refine Hf.out.mono ?_)
      rintro e W2 ⟨rfl, hb2⟩
      have HB := hide (HbW.out.trans (hb2.mono HbW.out.size))
      clear hb2
      go_wp2
      go_ret
      exact ⟨rfl, HB.out⟩
    · clear hbW hRW hs
      rcases hn with rfl | rfl
      · have Hf := hide (Tryz.strconv_FormatBool false W)
        go_wp2_with fail
        (with_reducible refine Hf.out.mono ?_)
        rintro e W2 ⟨rfl, rfl⟩
        go_wp2
        go_ret
        exact ⟨rfl, HbW.out⟩
      · have Hf := hide (Tryz.strconv_FormatBool true W)
        go_wp2_with fail
        (with_reducible refine Hf.out.mono ?_)
        rintro e W2 ⟨rfl, rfl⟩
        go_wp2
        go_ret
        exact ⟨rfl, HbW.out⟩
    · have hs12 : s.size ≤ 12 := by rw [← dl_size]; exact (nameL_facts hn).2.1
      clear hbW hRW hn
      go_wp2
      go_ret
      exact ⟨ret_str (by rw [dl_app]; rfl), HbW.out⟩
end Go.Proofs.YtkjndabbkfbkaaaGreatDoor
