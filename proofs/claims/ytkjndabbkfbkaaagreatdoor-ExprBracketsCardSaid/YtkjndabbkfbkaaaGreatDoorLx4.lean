/- lexer: text. -/
import Derived.Test.YtkjndabbkfbkaaaGreatDoorLx3
namespace Go.Proofs.YtkjndabbkfbkaaaGreatDoor
open Go Go.RowKit Go.Lib Go.Sort Go.Shelf

/-- Is the next byte escaped? -/
def stB : Bool → List UInt8 → Nat → Bool
  | b, _, 0 => b
  | b, [], _ + 1 => b
  | b, c :: r, i + 1 => stB (c == 92 && !b) r i
theorem stB_zero (b : Bool) (l : List UInt8) : stB b l 0 = b := by cases l <;> rfl
theorem stB_succ : ∀ (b : Bool) (l : List UInt8) (i : Nat) (c : UInt8), l[i]? = some c → stB b l (i + 1) = (c == 92 && !stB b l i)
  | b, [], i, c, h => by simp at h
  | b, d :: r, 0, c, h => by
    injection h with h
    subst h
    cases r <;> rfl
  | b, d :: r, i + 1, c, h => by
    rw [List.getElem?_cons_succ] at h
    exact stB_succ _ r i c h
/-- Does a text go on at a byte? -/
def goesC (b : Bool) (c : UInt8) : Bool := !((c == 34 && !b) || !priC c)
def goesB (b : Bool) (l : List UInt8) (i : Nat) : Bool := match l[i]? with
  | some c => goesC (stB b l i) c
  | none => false
theorem txt_goes : ∀ (b : Bool) (l : List UInt8) (i : Nat), i < txtSpan b l → goesB b l i = true
  | b, [], i, h => by simp [txtSpan] at h
  | b, c :: r, i, h => by
    rw [txtSpan_cons] at h
    by_cases hc : ((c == 34 && !b) || !priC c) = true
    · rw [if_pos hc] at h
      omega
    · rw [if_neg hc] at h
      cases i with
      | zero =>
        show (!((c == 34 && !b) || !priC c)) = true
        rw [Bool.eq_false_iff.2 hc]
        rfl
      | succ i => exact txt_goes (c == 92 && !b) r i (by omega)
theorem txt_stops : ∀ (b : Bool) (l : List UInt8), txtSpan b l < l.length → goesB b l (txtSpan b l) = false
  | b, [], h => by simp [txtSpan] at h
  | b, c :: r, h => by
    rw [txtSpan_cons] at h ⊢
    by_cases hc : ((c == 34 && !b) || !priC c) = true
    · rw [if_pos hc]
      show (!((c == 34 && !b) || !priC c)) = false
      rw [hc]
      rfl
    · rw [if_neg hc] at h ⊢
      rw [Nat.add_comm]
      exact txt_stops (c == 92 && !b) r (by rw [List.length_cons] at h; omega)
set_option maxRecDepth 100000 in
set_option maxHeartbeats 1000000 in
theorem text1_any (c : UInt8) (b : Bool) (B : Nat) (w : World) (h : w.heap[B]? = some (.cells #[.bool b] 4 (0, 0))) :
    Calls Tryz.prog 99 #[.int .u8 (c.toNat : Int), .pointer (some ⟨B, 0, none⟩)] w fun e w' => e = .returned (.bool (goesC b c)) ∧ w' = w.setCell ⟨B, 0, none⟩ (.bool (c == 92 && !b)) := by
  have c0 : w.cell? ⟨B, 0, none⟩ = some (.bool b) := by simp [World.cell?, h]
  have f0 : w.frozen? ⟨B, 0, none⟩ = false := by simp [World.frozen?, h]
  have hor : c = 34 ∨ c = 92 ∨ (c ≠ 34 ∧ c ≠ 92 ∧ c.toNat < 32) ∨ (c ≠ 34 ∧ c ≠ 92 ∧ 126 < c.toNat) ∨ (c ≠ 34 ∧ c ≠ 92 ∧ 32 ≤ c.toNat ∧ c.toNat ≤ 126) := by
    by_cases h1 : c = 34
    · exact .inl h1
    by_cases h2 : c = 92
    · exact .inr (.inl h2)
    by_cases h3 : c.toNat < 32
    · exact .inr (.inr (.inl ⟨h1, h2, h3⟩))
    by_cases h4 : 126 < c.toNat
    · exact .inr (.inr (.inr (.inl ⟨h1, h2, h4⟩)))
    · exact .inr (.inr (.inr (.inr ⟨h1, h2, by omega, by omega⟩)))
  have hne : ∀ d : UInt8, c ≠ d → ((c.toNat : Int) == (d.toNat : Int)) = false := fun d hd => by
    have : c.toNat ≠ d.toNat := fun e => hd (UInt8.toNat_inj.1 e)
    simp
    omega
  clear h
  rcases hor with rfl | rfl | ⟨h1, h2, h3⟩ | ⟨h1, h2, h3⟩ | ⟨h1, h2, h3, h4⟩
  · clear hne
    have e : goesC b 34 = b := by cases b <;> rfl
    rw [e]
    clear e
    cases b
    all_goals
      go_enter Tryz.func99, Tryz.ntmps99
      go_wp2
      go_ret
      exact ⟨rfl, rfl⟩
  · clear hne
    have e : goesC b 92 = true := by cases b <;> rfl
    rw [e]
    clear e
    cases b
    all_goals
      go_enter Tryz.func99, Tryz.ntmps99
      go_wp2
      go_ret
      exact ⟨rfl, rfl⟩
  · have n1 : ((c.toNat : Int) == 34) = false := hne 34 h1
    have n2 : ((c.toNat : Int) == 92) = false := hne 92 h2
    have i1 : decide ((c.toNat : Int) < 32) = true := by simp; omega
    have e : goesC b c = false := by
      have : priC c = false := by unfold priC; simp; omega
      simp [goesC, this]
    have e2 : (c == 92 && !b) = false := by simp [h2]
    rw [e, e2]
    clear e e2 hne h1 h2 h3
    go_enter Tryz.func99, Tryz.ntmps99
    go_wp2
    go_ret
    exact ⟨rfl, rfl⟩
  · have n1 : ((c.toNat : Int) == 34) = false := hne 34 h1
    have n2 : ((c.toNat : Int) == 92) = false := hne 92 h2
    have i1 : decide ((c.toNat : Int) < 32) = false := by simp; omega
    have i2 : decide ((126 : Int) < (c.toNat : Int)) = true := by simp; omega
    have e : goesC b c = false := by
      have : priC c = false := by unfold priC; simp; omega
      simp [goesC, this]
    have e2 : (c == 92 && !b) = false := by simp [h2]
    rw [e, e2]
    clear e e2 hne h1 h2 h3
    go_enter Tryz.func99, Tryz.ntmps99
    go_wp2
    go_ret
    exact ⟨rfl, rfl⟩
  · have n1 : ((c.toNat : Int) == 34) = false := hne 34 h1
    have n2 : ((c.toNat : Int) == 92) = false := hne 92 h2
    have i1 : decide ((c.toNat : Int) < 32) = false := by simp; omega
    have i2 : decide ((126 : Int) < (c.toNat : Int)) = false := by simp; omega
    have e : goesC b c = true := by
      have : priC c = true := by unfold priC; simp; omega
      simp [goesC, this, h1]
    have e2 : (c == 92 && !b) = false := by simp [h2]
    rw [e, e2]
    clear e e2 hne h1 h2 h3 h4
    go_enter Tryz.func99, Tryz.ntmps99
    go_wp2
    go_ret
    exact ⟨rfl, rfl⟩

/-- While a text goes on: how far it has come. -/
structure TxAt (w0 V : World) (B : Nat) (l : List UInt8) (k : Nat) : Prop where
  below : Below B w0 V
  box : V.heap[B]? = some (.cells #[.bool (stB false l (k - 1))] 4 (0, 0))
set_option maxRecDepth 100000 in
set_option maxHeartbeats 4000000 in
theorem ltext_any (s : ByteArray) (w : World) (h0 : 0 < s.size) (hs : s.size ≤ 65536) (hR : Rd w) :
    Calls Tryz.prog 67 #[.string s] w (WPost w (txtW (dl s))) := by
  obtain ⟨W0, hW0⟩ : ∃ W0, w.alloc (.cells tok0 62) = W0 := ⟨_, rfl⟩
  have hb0 : Below w.heap.size w W0 := by rw [← hW0]; exact (Below.refl w.heap.size w).alloc (Nat.le_refl _) _
  have ht0 := TokAt.new w
  have hz0 : W0.heap.size = w.heap.size + 1 := by rw [← hW0]; simp
  rw [hW0] at ht0
  unfold tok0 at hW0
  obtain ⟨W1, hW1⟩ : ∃ W1, W0.alloc (.cells #[.bool false] 4) = W1 := ⟨_, rfl⟩
  have hb1 : Below (w.heap.size + 1) W0 W1 := by rw [← hW1, ← hz0]; exact (Below.refl W0.heap.size W0).alloc (Nat.le_refl _) _
  have hx1 : TxAt W0 W1 (w.heap.size + 1) (dl s).tail 1 := ⟨hb1, by rw [Nat.sub_self, stB_zero, ← hW1, ← hz0]; exact (MapKept.heap_alloc W0 _).1⟩
  have hl := dl_size s
  have hcons : ∃ c q, dl s = c :: q := by
    cases hd : dl s with
    | nil => rw [hd] at hl; simp at hl; omega
    | cons c q => exact ⟨c, q, rfl⟩
  obtain ⟨c, q, hd⟩ := hcons
  have hql : q.length + 1 = s.size := by rw [← hl, hd]; rfl
  have hget : ∀ i, 1 ≤ i → ∀ (h : i < s.size), q[i - 1]? = some s[i] := fun i hi h => by
    have := dl_get h
    rw [hd] at this
    obtain ⟨j, rfl⟩ : ∃ j, i = j + 1 := ⟨i - 1, by omega⟩
    simpa using this
  have hle := txtSpan_le false q
  obtain ⟨N, hN⟩ : ∃ N, txtSpan false q = N := ⟨_, rfl⟩
  have hgo := txt_goes false q
  have hst := txt_stops false q
  rw [hN] at hgo hst hle
  have hwh := while_any s 99 #[.pointer (some ⟨w.heap.size + 1, 0, none⟩)] (fun i => goesB false q (i - 1)) (fun k V => TxAt W0 V (w.heap.size + 1) q k) (fun args w => by kernel_rfl) (by omega) 1 (1 + N) W1 (by omega) (by omega)
    (fun i h1 h2 => hgo (i - 1) (by omega)) (fun h => by
      show goesB false q (1 + N - 1) = false
      rw [Nat.add_sub_cancel_left]
      exact hst (by omega)) (by rw [hd] at hx1; exact hx1) (fun i V h h1 hI => by
      have hg := hget i h1 h
      refine (text1_any s[i] _ (w.heap.size + 1) V hI.box).mono ?_
      rintro e V' ⟨rfl, rfl⟩
      refine ⟨?_, (hI.below.setCell (by simp) _), ?_⟩
      · show _ = Ending.returned (.bool (goesB false q (i - 1)))
        unfold goesB
        rw [hg]
      · rw [setCell_heap hI.box, show i + 1 - 1 = (i - 1) + 1 by omega, stB_succ _ _ _ _ hg]
        rfl)
  have e1 : ((1 : Nat) : Int) = 1 := rfl
  have e2 : (((1 + N : Nat) : Int) - 1) = (N : Int) := by omega
  rw [e1, e2] at hwh
  have HW0 := hide hW0
  have HW1 := hide hW1
  have Hb0 := hide hb0
  have Ht0 := hide ht0
  have Hz0 := hide hz0
  have Hwh := hide hwh
  rw [hd, txtW_cons, hN]
  clear hW0 hb0 ht0 hz0 hwh e1 e2 hgo hst hget hW1 hb1 hx1 hl
  have hsp : dl (s.extract 0 (N + 2)) = (c :: q).take (N + 2) := by rw [dl_ext, List.drop_zero, Nat.sub_zero, hd]
  have hex : (⟨(q.take N).toArray⟩ : ByteArray) = s.extract 1 (1 + N) := dl_inj (by rw [dl_mk, dl_ext, hd, List.drop_one, List.tail_cons, Nat.add_sub_cancel_left])
  have hhd : ((c :: q).drop (1 + N)).head? = (dl s)[1 + N]? := by rw [List.head?_drop, hd]
  by_cases hq : ∃ h : 1 + N < s.size, s[1 + N] = 34
  · obtain ⟨hlt, hc⟩ := hq
    rw [hhd, dl_get hlt, hc, if_pos rfl, ← hsp]
    have hp := fun V (hV : Below w.heap.size w V) => parse_any (s.extract 0 (N + 2)) V (by rw [← dl_size, hsp, List.length_take, List.length_cons]; omega) (hR.below hV)
    obtain ⟨r, hr⟩ : ∃ r, prsL (dl (s.extract 0 (N + 2))) = r := ⟨_, rfl⟩
    have hpe : ∀ q, r = .error q → q = 3 ∨ q = 4 ∨ q = 9 := fun q hq => prsL_err (hr.trans hq)
    rw [hr]
    simp only [hr] at hp
    have i1 : decide ((s.size : Int) ≤ 1 + (N : Int)) = false := by simp; omega
    have i2 : 1 + (N : Int) < (s.size : Int) := by omega
    have i3 : (N : Int) + 2 ≤ (s.size : Int) := by omega
    have i4 : ((s[1 + N].toNat : Int) != 34) = false := by rw [hc]; rfl
    have i5 : (0 : Int) ≤ (N : Int) := by omega
    have Hp := hide hp
    have Hpe := hide hpe
    have Hex := hide hex
    clear hp hpe hex hsp hhd hc hR hr hd hN
    go_enter Tryz.func67, Tryz.ntmps67
    go_upto_region 1 with fail
    rw [HW0.out]
    clear HW0
    go_upto_region 2 with fail
    rw [HW1.out, Hz0.out]
    go_wp2_with fail
    (with_reducible refine Hwh.out.mono ?_)
    rintro e V ⟨rfl, k, hV⟩
    have hVb : Below w.heap.size w V := Hb0.out.trans (hV.below.mono (by omega))
    obtain ⟨c0, c1, c2, c3, c4, c5, c6, fz⟩ := Ht0.out.below (hV.below.mono (by rw [Hz0.out]; omega))
    have hVz : w.heap.size + 1 < V.heap.size := lt_of_heap hV.box
    have HB := hide hVb
    clear hV hVb Hwh Hb0 Ht0 Hz0 HW1
    have Hp2 := hide (Hp.out V HB.out)
    clear Hp
    go_wp2_with fail
    (with_reducible refine Hp2.out.mono ?_)
    rintro e X ⟨hb, he⟩
    obtain ⟨c0, c1, c2, c3, c4, c5, c6, fz⟩ := (show TokAt V w.heap.size 0 ⟨#[]⟩ 0 0 ⟨#[]⟩ 0 0 from ⟨c0, c1, c2, c3, c4, c5, c6, fz⟩).below hb
    have HB2 := hide (HB.out.trans (hb.mono HB.out.size))
    have hz : w.heap.size < X.heap.size := by have := hb.size; omega
    cases r with
    | ok v =>
      obtain ⟨vk, vn, vs⟩ := v
      simp only at he
      subst he
      clear Hp2 Hpe hb HB
      have hT := (TokAt.set7 (w := X) ⟨c0, c1, c2, c3, c4, c5, c6, fz⟩ 5 (s.extract 1 (1 + N)) vk vn ⟨vs.toArray⟩ 0 0).below (tail_below _ (.cells #[.int .u8 vk, .int .i64 vn, .string ⟨vs.toArray⟩] 32))
      have hB2 := (below_set7 HB2.out (Nat.le_refl _) 5 (s.extract 1 (1 + N)) vk vn ⟨vs.toArray⟩ 0 0).trans ((tail_below _ (.cells #[.int .u8 vk, .int .i64 vn, .string ⟨vs.toArray⟩] 32)).mono (by rw [set7_size]; omega))
      obtain ⟨Z, hZ⟩ : ∃ Z, ((set7 X w.heap.size 5 (s.extract 1 (1 + N)) vk vn ⟨vs.toArray⟩ 0 0).alloc (.cells #[.int .u8 vk, .int .i64 vn, .string ⟨vs.toArray⟩] 32)).drew = Z := ⟨_, rfl⟩
      rw [hZ] at hT hB2
      unfold set7 at hZ
      have HT := hide hT
      have HB3 := hide hB2
      have HZ := hide hZ
      clear hT hB2 hZ HB2
      go_wp2_with fail
      go_region
      all_goals
        rw [HZ.out]
        obtain ⟨d0, d1, d2, d3, d4, d5, d6, _⟩ := HT.out
        clear c0 c1 c2 c3 c4 c5 c6 fz
        go_wp2
        refine bodyPost_ret (v := .tuple #[.agg #[.int .u8 5, .string (s.extract 1 (1 + N)), .int .u8 vk, .int .i64 vn, .string ⟨vs.toArray⟩, .int .i64 0, .int .i64 0], .int .i64 ((N : Int) + 2), .int .i64 0]) (by simp [results, Tryz.results67, go_sem, *]) rfl ?_
        exact ⟨HB3.out, by rw [← Hex.out]; rfl⟩
    | error q =>
      simp only at he
      subst he
      have hq := Hpe.out q rfl
      clear Hp2 Hpe hb HB
      rcases hq with rfl | rfl | rfl
      · have hT := (TokAt.set7 (w := X) ⟨c0, c1, c2, c3, c4, c5, c6, fz⟩ 0 ⟨#[]⟩ 0 0 ⟨#[]⟩ 0 0).below (((Below.refl _ _).alloc (Nat.le_refl _) (.cells #[.int .u8 0, .int .i64 0, .string ⟨#[]⟩] 32)))
        have hB2 := (below_set7 HB2.out (Nat.le_refl _) 0 ⟨#[]⟩ 0 0 ⟨#[]⟩ 0 0).trans ((((Below.refl _ _).alloc (Nat.le_refl _) (.cells #[.int .u8 0, .int .i64 0, .string ⟨#[]⟩] 32))).mono (by rw [set7_size]; omega))
        obtain ⟨Z, hZ⟩ : ∃ Z, (set7 X w.heap.size 0 ⟨#[]⟩ 0 0 ⟨#[]⟩ 0 0).alloc (.cells #[.int .u8 0, .int .i64 0, .string ⟨#[]⟩] 32) = Z := ⟨_, rfl⟩
        rw [hZ] at hT hB2
        unfold set7 at hZ
        have HT := hide hT
        have HB3 := hide hB2
        have HZ := hide hZ
        clear hT hB2 hZ HB2
        go_wp2_with fail
        rw [HZ.out]
        obtain ⟨d0, d1, d2, d3, d4, d5, d6, _⟩ := HT.out
        clear c0 c1 c2 c3 c4 c5 c6 fz
        refine bodyPost_ret (v := .tuple #[.agg #[.int .u8 0, .string ⟨#[]⟩, .int .u8 0, .int .i64 0, .string ⟨#[]⟩, .int .i64 0, .int .i64 0], .int .i64 0, .int .i64 4]) (by simp [results, Tryz.results67, go_sem, *]) rfl ?_
        exact ⟨HB3.out, ⟨0, [], (0, 0, [])⟩, 0, rfl⟩
      · have hT := (TokAt.set7 (w := X) ⟨c0, c1, c2, c3, c4, c5, c6, fz⟩ 0 ⟨#[]⟩ 0 0 ⟨#[]⟩ 0 0).below (((Below.refl _ _).alloc (Nat.le_refl _) (.cells #[.int .u8 0, .int .i64 0, .string ⟨#[]⟩] 32)))
        have hB2 := (below_set7 HB2.out (Nat.le_refl _) 0 ⟨#[]⟩ 0 0 ⟨#[]⟩ 0 0).trans ((((Below.refl _ _).alloc (Nat.le_refl _) (.cells #[.int .u8 0, .int .i64 0, .string ⟨#[]⟩] 32))).mono (by rw [set7_size]; omega))
        obtain ⟨Z, hZ⟩ : ∃ Z, (set7 X w.heap.size 0 ⟨#[]⟩ 0 0 ⟨#[]⟩ 0 0).alloc (.cells #[.int .u8 0, .int .i64 0, .string ⟨#[]⟩] 32) = Z := ⟨_, rfl⟩
        rw [hZ] at hT hB2
        unfold set7 at hZ
        have HT := hide hT
        have HB3 := hide hB2
        have HZ := hide hZ
        clear hT hB2 hZ HB2
        go_wp2_with fail
        rw [HZ.out]
        obtain ⟨d0, d1, d2, d3, d4, d5, d6, _⟩ := HT.out
        clear c0 c1 c2 c3 c4 c5 c6 fz
        refine bodyPost_ret (v := .tuple #[.agg #[.int .u8 0, .string ⟨#[]⟩, .int .u8 0, .int .i64 0, .string ⟨#[]⟩, .int .i64 0, .int .i64 0], .int .i64 0, .int .i64 4]) (by simp [results, Tryz.results67, go_sem, *]) rfl ?_
        exact ⟨HB3.out, ⟨0, [], (0, 0, [])⟩, 0, rfl⟩
      · have hT := (TokAt.set7 (w := X) ⟨c0, c1, c2, c3, c4, c5, c6, fz⟩ 0 ⟨#[]⟩ 0 0 ⟨#[]⟩ 0 0).below (((Below.refl _ _).alloc (Nat.le_refl _) (.cells #[.int .u8 0, .int .i64 0, .string ⟨#[]⟩] 32)))
        have hB2 := (below_set7 HB2.out (Nat.le_refl _) 0 ⟨#[]⟩ 0 0 ⟨#[]⟩ 0 0).trans ((((Below.refl _ _).alloc (Nat.le_refl _) (.cells #[.int .u8 0, .int .i64 0, .string ⟨#[]⟩] 32))).mono (by rw [set7_size]; omega))
        obtain ⟨Z, hZ⟩ : ∃ Z, (set7 X w.heap.size 0 ⟨#[]⟩ 0 0 ⟨#[]⟩ 0 0).alloc (.cells #[.int .u8 0, .int .i64 0, .string ⟨#[]⟩] 32) = Z := ⟨_, rfl⟩
        rw [hZ] at hT hB2
        unfold set7 at hZ
        have HT := hide hT
        have HB3 := hide hB2
        have HZ := hide hZ
        clear hT hB2 hZ HB2
        go_wp2_with fail
        rw [HZ.out]
        obtain ⟨d0, d1, d2, d3, d4, d5, d6, _⟩ := HT.out
        clear c0 c1 c2 c3 c4 c5 c6 fz
        refine bodyPost_ret (v := .tuple #[.agg #[.int .u8 0, .string ⟨#[]⟩, .int .u8 0, .int .i64 0, .string ⟨#[]⟩, .int .i64 0, .int .i64 0], .int .i64 0, .int .i64 4]) (by simp [results, Tryz.results67, go_sem, *]) rfl ?_
        exact ⟨HB3.out, ⟨0, [], (0, 0, [])⟩, 0, rfl⟩
  · rw [hhd]
    have hno : ¬ (dl s)[1 + N]? = some 34 := fun h => hq (by
      have h1 := (List.getElem?_eq_some_iff.1 h).1
      rw [dl_size] at h1
      rw [dl_get h1] at h
      injection h with h
      exact ⟨h1, h⟩)
    rw [if_neg hno]
    clear hno hhd hex hsp hR
    by_cases hlt : 1 + N < s.size
    · have hc : s[1 + N] ≠ 34 := fun e => hq ⟨hlt, e⟩
      have i1 : decide ((s.size : Int) ≤ 1 + (N : Int)) = false := by simp; omega
      have i2 : 1 + (N : Int) < (s.size : Int) := by omega
      have i4 : ((s[1 + N].toNat : Int) != 34) = true := by
        have : s[1 + N].toNat ≠ 34 := fun e => hc (UInt8.toNat_inj.1 e)
        simp
        omega
      have i5 : (0 : Int) ≤ (N : Int) := by omega
      clear hq hc hd hN
      go_enter Tryz.func67, Tryz.ntmps67
      go_upto_region 1 with fail
      rw [HW0.out]
      clear HW0
      go_upto_region 2 with fail
      rw [HW1.out, Hz0.out]
      go_wp2_with fail
      (with_reducible refine Hwh.out.mono ?_)
      rintro e V ⟨rfl, k, hV⟩
      have hVb : Below w.heap.size w V := Hb0.out.trans (hV.below.mono (by omega))
      obtain ⟨c0, c1, c2, c3, c4, c5, c6, fz⟩ := Ht0.out.below (hV.below.mono (by rw [Hz0.out]; omega))
      have hVz : w.heap.size + 1 < V.heap.size := lt_of_heap hV.box
      have HB := hide hVb
      clear hV hVb Hwh Hb0 Ht0 Hz0 HW1
      have hT := TokAt.set7 (w := V) ⟨c0, c1, c2, c3, c4, c5, c6, fz⟩ 0 ⟨#[]⟩ 0 0 ⟨#[]⟩ 0 0
      have hB2 := below_set7 HB.out (Nat.le_refl _) 0 ⟨#[]⟩ 0 0 ⟨#[]⟩ 0 0
      obtain ⟨Z, hZ⟩ : ∃ Z, set7 V w.heap.size 0 ⟨#[]⟩ 0 0 ⟨#[]⟩ 0 0 = Z := ⟨_, rfl⟩
      rw [hZ] at hT hB2
      unfold set7 at hZ
      have HT := hide hT
      have HB3 := hide hB2
      have HZ := hide hZ
      clear hT hB2 hZ HB
      go_wp2_with fail
      rw [HZ.out]
      obtain ⟨d0, d1, d2, d3, d4, d5, d6, _⟩ := HT.out
      clear c0 c1 c2 c3 c4 c5 c6 fz
      refine bodyPost_ret (v := .tuple #[.agg #[.int .u8 0, .string ⟨#[]⟩, .int .u8 0, .int .i64 0, .string ⟨#[]⟩, .int .i64 0, .int .i64 0], .int .i64 0, .int .i64 4]) (by simp [results, Tryz.results67, go_sem, *]) rfl ?_
      exact ⟨HB3.out, ⟨0, [], (0, 0, [])⟩, 0, rfl⟩
    · have i1 : decide ((s.size : Int) ≤ 1 + (N : Int)) = true := by simp; omega
      clear hq hd hN hlt
      go_enter Tryz.func67, Tryz.ntmps67
      go_upto_region 1 with fail
      rw [HW0.out]
      clear HW0
      go_upto_region 2 with fail
      rw [HW1.out, Hz0.out]
      go_wp2_with fail
      (with_reducible refine Hwh.out.mono ?_)
      rintro e V ⟨rfl, k, hV⟩
      have hVb : Below w.heap.size w V := Hb0.out.trans (hV.below.mono (by omega))
      obtain ⟨c0, c1, c2, c3, c4, c5, c6, fz⟩ := Ht0.out.below (hV.below.mono (by rw [Hz0.out]; omega))
      have hVz : w.heap.size + 1 < V.heap.size := lt_of_heap hV.box
      have HB := hide hVb
      clear hV hVb Hwh Hb0 Ht0 Hz0 HW1
      have hT := TokAt.set7 (w := V) ⟨c0, c1, c2, c3, c4, c5, c6, fz⟩ 0 ⟨#[]⟩ 0 0 ⟨#[]⟩ 0 0
      have hB2 := below_set7 HB.out (Nat.le_refl _) 0 ⟨#[]⟩ 0 0 ⟨#[]⟩ 0 0
      obtain ⟨Z, hZ⟩ : ∃ Z, set7 V w.heap.size 0 ⟨#[]⟩ 0 0 ⟨#[]⟩ 0 0 = Z := ⟨_, rfl⟩
      rw [hZ] at hT hB2
      unfold set7 at hZ
      have HT := hide hT
      have HB3 := hide hB2
      have HZ := hide hZ
      clear hT hB2 hZ HB
      go_wp2_with fail
      rw [HZ.out]
      obtain ⟨d0, d1, d2, d3, d4, d5, d6, _⟩ := HT.out
      clear c0 c1 c2 c3 c4 c5 c6 fz
      refine bodyPost_ret (v := .tuple #[.agg #[.int .u8 0, .string ⟨#[]⟩, .int .u8 0, .int .i64 0, .string ⟨#[]⟩, .int .i64 0, .int .i64 0], .int .i64 0, .int .i64 4]) (by simp [results, Tryz.results67, go_sem, *]) rfl ?_
      exact ⟨HB3.out, ⟨0, [], (0, 0, [])⟩, 0, rfl⟩
end Go.Proofs.YtkjndabbkfbkaaaGreatDoor
