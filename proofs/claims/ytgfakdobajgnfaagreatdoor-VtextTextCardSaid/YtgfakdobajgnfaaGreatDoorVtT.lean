/- VtextText: the walk. -/
import Derived.Test.YtgfakdobajgnfaaGreatDoorVt7
import Derived.Test.YtgfakdobajgnfaaGreatDoorRt3
namespace Go.Proofs.YtgfakdobajgnfaaGreatDoor
open Go Go.RowKit Go.Lib Go.Sort Go.Shelf

/-- The argument's box. -/
structure OneT (w V : World) (k n : Int) (s : ByteArray) : Prop where
  a : V.heap[w.heap.size]? = some (.cells #[.int .u8 k, .int .i64 n, .string s] 23 (0, 0))
  low : Below w.heap.size w V
  rd0 : Rd w
theorem OneT.rd {w V : World} {k n : Int} {s : ByteArray} (h : OneT w V k n s) : Rd V := h.rd0.below h.low
theorem OneT.below {w V V' : World} {k n : Int} {s : ByteArray} (h : OneT w V k n s) (hb : Below V.heap.size V V') : OneT w V' k n s :=
  ⟨(hb.block _ (lt_of_heap h.a)).trans h.a, h.low.trans (hb.mono h.low.size), h.rd0⟩
theorem OneT.cells {w V : World} {k n : Int} {s : ByteArray} (h : OneT w V k n s) : V.cell? ⟨w.heap.size, 0, none⟩ = some (.int .u8 k) ∧ V.cell? ⟨w.heap.size, 1, none⟩ = some (.int .i64 n) ∧ V.cell? ⟨w.heap.size, 2, none⟩ = some (.string s) :=
  ⟨by simp only [World.cell?, h.a]; rfl, by simp only [World.cell?, h.a]; rfl, by simp only [World.cell?, h.a]; rfl⟩
set_option maxRecDepth 100000 in
set_option maxHeartbeats 4000000 in
theorem vtext_walk (v : Vl) (w : World) (hv : v.fit) (hR : Rd w) :
    Calls Tryz.prog 3 #[.agg #[.int .u8 v.k, .int .i64 v.n, .string v.s]] w fun e w' => e = .returned (.bool true) ∧ Below w.heap.size w w' := by
  obtain ⟨W0, hW0⟩ : ∃ W0, w.alloc (.cells #[.int .u8 v.k, .int .i64 v.n, .string v.s] 23) = W0 := ⟨_, rfl⟩
  have h0 : OneT w W0 v.k v.n v.s := by
    rw [← hW0]
    exact ⟨(MapKept.heap_alloc w _).1, (Below.refl w.heap.size w).alloc (Nat.le_refl _) _, hR⟩
  have HW0 := hide hW0
  have H0 := hide h0
  obtain ⟨c0, c1, c2⟩ := h0.cells
  have hz := hv.1
  have Hk : Hid (∀ V, OneT w V v.k v.n v.s → _) := hide fun V hV => known03 V hV.rd
  have Ht : Hid (∀ V, OneT w V v.k v.n v.s → _) := hide fun V hV => text_any v V hv hV.rd
  have Hr : Hid (∀ V, OneT w V v.k v.n v.s → _) := hide fun V (_ : OneT w V v.k v.n v.s) => rtext_any v V hv
  have Hm : Hid (∀ V, OneT w V v.k v.n v.s → _) := hide fun V (_ : OneT w V v.k v.n v.s) => rmay_any v hv.1 V
  have Hp : Hid (mayL v.k v.n (dl v.s) = true → ∀ V, OneT w V v.k v.n v.s → Calls Tryz.prog 18 #[.string (txtB v)] V fun e w' => e = .returned (.tuple #[.agg #[.int .u8 v.k, .int .i64 v.n, .string v.s], .int .i64 0]) ∧ Below V.heap.size V w') := hide fun hm V hV => by
    have h1 := prsL_txt hm hv.2.1 hv.2.2
    obtain ⟨_, h4, _⟩ := txt_facts hm hv.2.1 hv.2.2
    have e : dl (txtB v) = txtL v.k v.n (dl v.s) := by show txtM _ _ _ = _; unfold txtM; rw [if_pos hm]
    have := parse_ok (txtB v) V (by rw [← dl_size, e]; omega) hV.rd (by rw [e]; exact h1)
    rwa [mk_dl] at this
  have He : Hid (mayL v.k v.n (dl v.s) = false → txtB v = ⟨#[]⟩) := hide fun hm => by
    unfold txtB txtM
    rw [hm]
    rfl
  obtain ⟨X, hX⟩ : ∃ X, txtB v = X := ⟨_, rfl⟩
  rw [hX] at Ht Hr Hp He
  clear hX
  have hml : mayL v.k v.n (dl v.s) = mayB v := (mayB_L v).symm
  rw [hml] at Hp He
  clear hml hv hR h0 hW0
  obtain ⟨k, n, s⟩ := v
  simp only at *
  obtain ⟨mb, hmb⟩ : ∃ b, mayB ⟨k, n, s⟩ = b := ⟨_, rfl⟩
  rw [hmb] at Hm Hp He
  clear hmb
  go_enter Tryz.func3, Tryz.ntmps3
  go_upto_region 1 with fail
  rw [HW0.out]
  by_cases hbig : 1000 < s.size
  · have p0 : decide (1000 < s.size) = true := decide_eq_true hbig
    go_wp2_with fail
    (with_reducible refine (Hk.out W0 H0.out).mono ?_)
    rintro e V ⟨rfl, hb⟩
    have HF := hide (H0.out.low.trans (hb.mono H0.out.low.size))
    clear hb
    go_wp2
    go_ret
    exact ⟨rfl, HF.out⟩
  · have hsm : s.size ≤ 1000 := by omega
    clear hbig
    go_wp2_with fail
    (with_reducible refine (Ht.out W0 H0.out).mono ?_)
    rintro e V1 ⟨rfl, hb⟩
    have H1 := hide (H0.out.below hb)
    clear hb c0 c1 c2
    obtain ⟨c0, c1, c2⟩ := H1.out.cells
    go_wp2_with fail
    (with_reducible refine (Hr.out V1 H1.out).mono ?_)
    rintro e V2 ⟨rfl, hb⟩
    have H2 := hide (H1.out.below hb)
    clear hb c0 c1 c2
    obtain ⟨c0, c1, c2⟩ := H2.out.cells
    go_wp2_with fail
    (with_reducible refine (Hm.out V2 H2.out).mono ?_)
    rintro e V3 ⟨rfl, hb⟩
    have H3 := hide (H2.out.below hb)
    clear hb c0 c1 c2
    obtain ⟨c0, c1, c2⟩ := H3.out.cells
    cases mb with
    | false =>
      obtain rfl := He.out rfl
      clear Hp He
      go_wp2_with fail
      (with_reducible refine (Hk.out V3 H3.out).mono ?_)
      rintro e V ⟨rfl, hb⟩
      have HF := hide (H3.out.low.trans (hb.mono H3.out.low.size))
      clear hb
      go_wp2
      go_ret
      exact ⟨rfl, HF.out⟩
    | true =>
      go_wp2_with fail
      (with_reducible refine (Hp.out trivial V3 H3.out).mono ?_)
      rintro e V4 ⟨rfl, hb⟩
      have H4 := hide (H3.out.below hb)
      clear hb c0 c1 c2
      obtain ⟨c0, c1, c2⟩ := H4.out.cells
      have hal := (Below.refl V4.heap.size V4).alloc (Nat.le_refl _) (.cells #[.int .u8 k, .int .i64 n, .string s] 23)
      have d0 := bcell hal c0
      have d1 := bcell hal c1
      have d2 := bcell hal c2
      have H5 := hide (H4.out.below hal)
      clear hal
      go_wp2_with fail
      (with_reducible refine (Hk.out _ H5.out).mono ?_)
      rintro e V ⟨rfl, hb⟩
      have HF := hide (H5.out.low.trans (hb.mono H5.out.low.size))
      clear hb
      go_wp2
      go_ret
      exact ⟨rfl, HF.out⟩
end Go.Proofs.YtgfakdobajgnfaaGreatDoor
