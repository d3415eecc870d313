/- LexerJoins: the walk. -/
import Derived.Test.YtlodonnnbjcejaaGreatDoorLxS
namespace Go.Proofs.YtlodonnnbjcejaaGreatDoor
open Go Go.RowKit Go.Lib Go.Sort Go.Shelf

/-- Lex, whatever it says. -/
theorem lex_some {s : ByteArray} (w : World) (hs : s.size ≤ 65536) (hR : Rd w) : Calls Tryz.prog 13 #[.string s] w fun e w' => (∃ a n c x y q, e = .returned (.tuple #[.slice a n c, .agg #[.int .i64 x, .int .i64 y], .int .i64 q])) ∧ Below w.heap.size w w' := by
  refine (lex_any s w hs hR).mono ?_
  rintro e w' ⟨hb, he⟩
  refine ⟨?_, hb⟩
  cases h : lexL (dl s) with
  | error p =>
    rw [h] at he
    exact ⟨none, 0, 0, p.1, p.2.1, p.2.2, he⟩
  | ok ts =>
    rw [h] at he
    obtain ⟨v, h1, h2⟩ := he
    obtain ⟨a, c, rfl⟩ := row_form h2
    exact ⟨a, _, c, 0, 0, 0, h1⟩
theorem new2 (V : World) (x y : Int) : (V.alloc (.cells #[.int .i64 x, .int .i64 y] 32)).cell? ⟨V.heap.size, 0, none⟩ = some (.int .i64 x) ∧ (V.alloc (.cells #[.int .i64 x, .int .i64 y] 32)).cell? ⟨V.heap.size, 1, none⟩ = some (.int .i64 y) := by
  have h := (MapKept.heap_alloc V (.cells #[.int .i64 x, .int .i64 y] 32)).1
  exact ⟨by (simp only [World.cell?, h]; rfl), by (simp only [World.cell?, h]; rfl)⟩
theorem LX_top : ∀ (k : Nat) (l : List UInt8) (a b : Int), l.length ≤ k → (∀ x y e, LX l a b = .error (x, y, e) → x ≤ a + (l.length : Nat)) ∧ (∀ ts, LX l a b = .ok ts → ∀ t ∈ ts, t.line ≤ a + (l.length : Nat))
  | k, l, a, b, hk => by
    refine lex_cases (P := fun l => l.length ≤ k → (∀ x y e, LX l a b = .error (x, y, e) → x ≤ a + (l.length : Nat)) ∧ (∀ ts, LX l a b = .ok ts → ∀ t ∈ ts, t.line ≤ a + (l.length : Nat))) l ?_ ?_ ?_ ?_ ?_ ?_ hk
    · rintro rfl _
      refine ⟨fun x y e h => ?_, fun ts h => ?_⟩
      · rw [LX_nil] at h; cases h
      · rw [LX_nil] at h
        injection h with h
        subst h
        simp
    · rintro r rfl hk
      obtain ⟨k, rfl⟩ : ∃ j, k = j + 1 := ⟨k - 1, by rw [List.length_cons] at hk; omega⟩
      obtain ⟨h1, h2⟩ := LX_top k r (a + 1) 1 (by rw [List.length_cons] at hk; omega)
      rw [LX_line, List.length_cons]
      refine ⟨fun x y e h => ?_, fun ts h t ht => ?_⟩
      · have := h1 x y e h
        omega
      · have := h2 ts h t ht
        omega
    · rintro r rfl hk
      obtain ⟨k, rfl⟩ : ∃ j, k = j + 1 := ⟨k - 1, by rw [List.length_cons] at hk; omega⟩
      obtain ⟨h1, h2⟩ := LX_top k r a (b + 1) (by rw [List.length_cons] at hk; omega)
      rw [LX_blank, List.length_cons]
      refine ⟨fun x y e h => ?_, fun ts h t ht => ?_⟩
      · have := h1 x y e h
        omega
      · have := h2 ts h t ht
        omega
    · rintro r rfl hk
      obtain ⟨k, rfl⟩ : ∃ j, k = j + 1 := ⟨k - 1, by rw [List.length_cons] at hk; omega⟩
      have hp := spanL_pos (q := no10) (c := 59) (r := r) (by decide)
      rw [LX_rem]
      obtain ⟨h1, h2⟩ := LX_top k ((59 :: r).drop (spanL no10 (59 :: r))) a (b + spanL no10 (59 :: r)) (by rw [List.length_drop]; omega)
      rw [List.length_drop] at h1 h2
      refine ⟨fun x y e h => ?_, fun ts h t ht => ?_⟩
      · have := h1 x y e h
        omega
      · have := h2 ts h t ht
        omega
    · rintro c r e rfl hc hw hk
      rw [LX_err hc hw]
      refine ⟨fun x y e' h => ?_, fun ts h => by cases h⟩
      injection h with h
      simp only [Prod.mk.injEq] at h
      obtain ⟨rfl, rfl, rfl⟩ := h
      omega
    · rintro c r w n rfl hc hw hk
      obtain ⟨k, rfl⟩ : ∃ j, k = j + 1 := ⟨k - 1, by rw [List.length_cons] at hk; omega⟩
      obtain ⟨hn, _⟩ := wordL_len hw
      rw [LX_word hc hw]
      obtain ⟨h1, h2⟩ := LX_top k ((c :: r).drop n) a (b + n) (by rw [List.length_drop]; omega)
      rw [List.length_drop] at h1 h2
      cases hx : LX ((c :: r).drop n) a (b + n) with
      | error q =>
        obtain ⟨x', y', e'⟩ := q
        refine ⟨fun x y e h => ?_, fun ts h => by cases h⟩
        injection h with h
        simp only [Prod.mk.injEq] at h
        obtain ⟨rfl, rfl, rfl⟩ := h
        have := h1 _ _ _ hx
        omega
      | ok us =>
        refine ⟨fun x y e h => (by cases h), fun ts h t ht => ?_⟩
        injection h with h
        subst h
        rw [List.mem_cons] at ht
        rcases ht with rfl | ht
        · show a ≤ _
          omega
        · have := h2 us hx t ht
          omega
theorem lex_errq {l : List UInt8} {a b q : Int} (h : lexL l = .error (a, b, q)) : q = 4 ∨ q = 9 := by
  rw [lexL_LX] at h
  exact ((LX_rise _ l 1 1 (Nat.le_refl _) (by decide)).1 a b q h).2.2
set_option maxRecDepth 100000 in
set_option maxHeartbeats 8000000 in
theorem joins_err1 (s t : ByteArray) (w : World) (hR : Rd w) (hs : s.size ≤ 1500) (ht : t.size ≤ 1500) {x y q : Int} (h : lexL (dl s) = .error (x, y, q)) :
    Calls Tryz.prog 4 #[.string s, .string t] w fun e w' => e = .returned (.bool true) ∧ Below w.heap.size w w' := by
  have hq := lex_errq h
  have hj : lexL (dl (s ++ ⟨#[10]⟩ ++ t)) = .error (x, y, q) := by
    rw [dl_app, dl_app, List.append_assoc]
    show lexL (dl s ++ 10 :: dl t) = _
    rw [lexL_join, h]
    rfl
  have L1 := hide (lex_er w (by omega) hR h)
  have HR := hide hR
  have Hj := hide hj
  have i1 : decide ((1500 : Int) < (s.size : Int)) = false := by simp; omega
  have i2 : decide ((1500 : Int) < (t.size : Int)) = false := by simp; omega
  have hz : (s ++ ⟨#[10]⟩ ++ t).size ≤ 65536 := by
    have e1 : (s ++ ⟨#[10]⟩ ++ t).size = s.size + 1 + t.size := by rw [ByteArray.size_append, ByteArray.size_append]; rfl
    omega
  have Hz := hide hz
  clear hR hj h hz
  go_enter Tryz.func4, Tryz.ntmps4
  go_wp2_with fail
  (with_reducible refine L1.out.mono ?_)
  rintro e V1 ⟨rfl, hb1⟩
  obtain ⟨p0, p1⟩ := new2 V1 x y
  have hV1 : V1.heap.size < (V1.alloc (.cells #[.int .i64 x, .int .i64 y] 32)).heap.size := by simp
  obtain ⟨W1, hW1⟩ : ∃ W1, V1.alloc (.cells #[.int .i64 x, .int .i64 y] 32) = W1 := ⟨_, rfl⟩
  have hB1 : Below w.heap.size w W1 := by rw [← hW1]; exact hb1.alloc hb1.size _
  rw [hW1] at p0 p1 hV1
  have L2 := hide (lex_some (s := t) W1 (by omega) (HR.out.below hB1))
  have HW1 := hide hW1
  have HB1 := hide hB1
  clear hW1 hB1 hb1 L1
  go_upto_region 4 with fail
  rw [HW1.out]
  go_wp2_with fail
  (with_reducible refine L2.out.mono ?_)
  rintro e V2 ⟨⟨a2, n2, c2, x2, y2, q2, rfl⟩, hb2⟩
  have p0' := (World.cell?_of_block (w := W1) (w' := V2) (a := ⟨V1.heap.size, 0, none⟩) (hb2.block _ hV1)).trans p0
  have p1' := (World.cell?_of_block (w := W1) (w' := V2) (a := ⟨V1.heap.size, 1, none⟩) (hb2.block _ hV1)).trans p1
  have hb2' := (Below.refl V2.heap.size V2).alloc (Nat.le_refl _) (.cells #[.int .i64 x2, .int .i64 y2] 32)
  have hV2 : V1.heap.size < V2.heap.size := Nat.lt_of_lt_of_le hV1 hb2.size
  obtain ⟨W2, hW2⟩ : ∃ W2, V2.alloc (.cells #[.int .i64 x2, .int .i64 y2] 32) = W2 := ⟨_, rfl⟩
  rw [hW2] at hb2'
  have hB2 : Below w.heap.size w W2 := (HB1.out.trans (hb2.mono HB1.out.size)).trans (hb2'.mono (Nat.le_trans HB1.out.size hb2.size))
  have p0'' := (World.cell?_of_block (w := V2) (w' := W2) (a := ⟨V1.heap.size, 0, none⟩) (hb2'.block _ hV2)).trans p0'
  have p1'' := (World.cell?_of_block (w := V2) (w' := W2) (a := ⟨V1.heap.size, 1, none⟩) (hb2'.block _ hV2)).trans p1'
  have hV2' : V1.heap.size < W2.heap.size := Nat.lt_of_lt_of_le hV2 hb2'.size
  have L3 := hide (lex_er (s := s ++ ⟨#[10]⟩ ++ t) W2 Hz.out (HR.out.below hB2) Hj.out)
  have HW2 := hide hW2
  have HB2 := hide hB2
  clear p0 p1 p0' p1' hW2 hB2 hb2 hb2' hV1 hV2 L2 HB1
  go_upto_region 5 with fail
  rw [HW2.out]
  go_wp2_with fail
  (with_reducible refine L3.out.mono ?_)
  rintro e V3 ⟨rfl, hb3⟩
  have r0 := (World.cell?_of_block (w := W2) (w' := V3) (a := ⟨V1.heap.size, 0, none⟩) (hb3.block _ hV2')).trans p0''
  have r1 := (World.cell?_of_block (w := W2) (w' := V3) (a := ⟨V1.heap.size, 1, none⟩) (hb3.block _ hV2')).trans p1''
  have hV3 : V1.heap.size < V3.heap.size := Nat.lt_of_lt_of_le hV2' hb3.size
  have hB3 : Below w.heap.size w (V3.alloc (.cells #[.int .i64 x, .int .i64 y] 32)) := (HB2.out.trans (hb3.mono HB2.out.size)).alloc (Nat.le_trans HB2.out.size hb3.size) _
  have K := hide (known06 _ (HR.out.below hB3))
  have HB3 := hide hB3
  clear p0'' p1'' hb3 hB3 hV2' L3 HB2
  rcases hq with rfl | rfl
  all_goals
    go_wp2_with fail
    (with_reducible refine K.out.mono ?_)
    rintro e V ⟨rfl, hb⟩
    have HB := hide (HB3.out.trans (hb.mono HB3.out.size))
    clear hb
    go_wp2
    go_ret
    exact ⟨rfl, HB.out⟩
set_option maxRecDepth 100000 in
set_option maxHeartbeats 8000000 in
theorem joins_err2 (s t : ByteArray) (w : World) (hR : Rd w) (hs : s.size ≤ 1500) (ht : t.size ≤ 1500) {asx : List Tkn} (h1 : lexL (dl s) = .ok asx) {x y q : Int} (h : lexL (dl t) = .error (x, y, q)) :
    Calls Tryz.prog 4 #[.string s, .string t] w fun e w' => e = .returned (.bool true) ∧ Below w.heap.size w w' := by
  have hq := lex_errq h
  have hx1 : 1 ≤ x := ((LX_rise _ (dl t) 1 1 (Nat.le_refl _) (by decide)).1 x y q h).1
  have hx2 : x ≤ 1 + ((dl t).length : Nat) := (LX_top _ (dl t) 1 1 (Nat.le_refl _)).1 x y q h
  rw [dl_size] at hx2
  have hN1 : (dl s).count 10 ≤ s.size := by rw [← dl_size]; exact List.count_le_length
  obtain ⟨N, hN⟩ : ∃ N, (dl s).count 10 = N := ⟨_, rfl⟩
  have hj : lexL (dl (s ++ ⟨#[10]⟩ ++ t)) = .error (x + (1 + (N : Int)), y, q) := by
    rw [dl_app, dl_app, List.append_assoc]
    show lexL (dl s ++ 10 :: dl t) = _
    rw [lexL_join, h, h1, hN]
    rfl
  rw [hN] at hN1
  have hcn := fun V => Tryz.strings_Count_one s 10 V
  have hcn2 : ∀ V, Calls Tryz.prog 14 #[.string s, .string ⟨#[10]⟩] V fun e w' => e = .returned (.int .i64 (N : Int)) ∧ V = w' := fun V => by
    refine (hcn V).mono ?_
    rintro e w' ⟨rfl, rfl⟩
    refine ⟨?_, rfl⟩
    rw [← hN]
    rfl
  have L1 := hide (lex_ok w (by omega) hR h1)
  have HR := hide hR
  have Hj := hide hj
  have Hcn := hide hcn2
  have Ht := hide h
  have i1 : decide ((1500 : Int) < (s.size : Int)) = false := by simp; omega
  have i2 : decide ((1500 : Int) < (t.size : Int)) = false := by simp; omega
  have hz : (s ++ ⟨#[10]⟩ ++ t).size ≤ 65536 := by
    have e1 : (s ++ ⟨#[10]⟩ ++ t).size = s.size + 1 + t.size := by rw [ByteArray.size_append, ByteArray.size_append]; rfl
    omega
  have Hz := hide hz
  have hNb : (N : Int) ≤ 1500 := by omega
  have hxb : x ≤ 1501 := by omega
  clear hR hj h hz hcn hcn2 hN h1 hx2
  go_enter Tryz.func4, Tryz.ntmps4
  go_wp2_with fail
  (with_reducible refine L1.out.mono ?_)
  rintro e V1 ⟨v1, rfl, hrow1, hb1⟩
  obtain ⟨a1, q1, rfl⟩ := row_form hrow1
  obtain ⟨W1, hW1⟩ : ∃ W1, V1.alloc (.cells #[.int .i64 0, .int .i64 0] 32) = W1 := ⟨_, rfl⟩
  have hB1 : Below w.heap.size w W1 := by rw [← hW1]; exact hb1.alloc hb1.size _
  have L2 := hide (lex_er (s := t) W1 (by omega) (HR.out.below hB1) Ht.out)
  have HW1 := hide hW1
  have HB1 := hide hB1
  clear hW1 hB1 hb1 L1 hrow1
  go_upto_region 4 with fail
  rw [HW1.out]
  go_wp2_with fail
  (with_reducible refine L2.out.mono ?_)
  rintro e V2 ⟨rfl, hb2⟩
  obtain ⟨p0, p1⟩ := new2 V2 x y
  have pf : (V2.alloc (.cells #[.int .i64 x, .int .i64 y] 32)).frozen? ⟨V2.heap.size, 0, none⟩ = false := by
    have h := (MapKept.heap_alloc V2 (.cells #[.int .i64 x, .int .i64 y] 32)).1
    simp only [World.frozen?, h]
    rfl
  have hV2 : V2.heap.size < (V2.alloc (.cells #[.int .i64 x, .int .i64 y] 32)).heap.size := by simp
  have hb2' := (Below.refl V2.heap.size V2).alloc (Nat.le_refl _) (.cells #[.int .i64 x, .int .i64 y] 32)
  obtain ⟨W2, hW2⟩ : ∃ W2, V2.alloc (.cells #[.int .i64 x, .int .i64 y] 32) = W2 := ⟨_, rfl⟩
  rw [hW2] at hb2' p0 p1 pf hV2
  have hB2 : Below w.heap.size w W2 := (HB1.out.trans (hb2.mono HB1.out.size)).trans (hb2'.mono (Nat.le_trans HB1.out.size hb2.size))
  have L3 := hide (lex_er (s := s ++ ⟨#[10]⟩ ++ t) W2 Hz.out (HR.out.below hB2) Hj.out)
  have HW2 := hide hW2
  have HB2 := hide hB2
  have hwV2 : w.heap.size ≤ V2.heap.size := Nat.le_trans HB1.out.size hb2.size
  clear hW2 hB2 hb2 hb2' L2 HB1
  go_upto_region 5 with fail
  rw [HW2.out]
  go_wp2_with fail
  (with_reducible refine L3.out.mono ?_)
  rintro e V3 ⟨rfl, hb3⟩
  have r0 := (World.cell?_of_block (w := W2) (w' := V3) (a := ⟨V2.heap.size, 0, none⟩) (hb3.block _ hV2)).trans p0
  have r1 := (World.cell?_of_block (w := W2) (w' := V3) (a := ⟨V2.heap.size, 1, none⟩) (hb3.block _ hV2)).trans p1
  have rf := (World.frozen?_of_block (w := W2) (w' := V3) (a := ⟨V2.heap.size, 0, none⟩) (hb3.block _ hV2)).trans pf
  have hV3 : V2.heap.size < V3.heap.size := Nat.lt_of_lt_of_le hV2 hb3.size
  have hB3 : Below w.heap.size w (V3.alloc (.cells #[.int .i64 (x + (1 + (N : Int))), .int .i64 y] 32)) := (HB2.out.trans (hb3.mono HB2.out.size)).alloc (Nat.le_trans HB2.out.size hb3.size) _
  have hB4 : Below w.heap.size w ((V3.setCell ⟨V2.heap.size, 0, none⟩ (.int .i64 (x + (1 + (N : Int))))).alloc (.cells #[.int .i64 (x + (1 + (N : Int))), .int .i64 y] 32)) :=
    ((HB2.out.trans (hb3.mono HB2.out.size)).setCell hwV2 _).alloc (by have := HB2.out.size; have := hb3.size; simp [World.setCell]; omega) _
  have Cn := hide (Hcn.out (V3.alloc (.cells #[.int .i64 (x + (1 + (N : Int))), .int .i64 y] 32)))
  have K := hide (known06 _ (HR.out.below hB4))
  have HB4 := hide hB4
  clear p0 p1 pf hb3 hB3 hB4 hV2 L3 HB2
  rcases hq with rfl | rfl
  all_goals
    go_wp2_with fail
    (with_reducible refine Cn.out.mono ?_)
    rintro e V ⟨rfl, rfl⟩
    go_wp2_with fail
    (with_reducible refine K.out.mono ?_)
    rintro e V ⟨rfl, hb⟩
    have HB := hide (HB4.out.trans (hb.mono HB4.out.size))
    clear hb
    go_wp2
    go_ret
    exact ⟨rfl, HB.out⟩
end Go.Proofs.YtlodonnnbjcejaaGreatDoor
