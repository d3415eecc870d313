/- The walk of witanlaw03.VtextBytes. -/
import Derived.Test.YthkjhegahgpfhaaDoorVt8
namespace Go.Proofs.YthkjhegahgpfhaaDoor
open Go Go.RowKit Go.Lib Go.Sort Go.Shelf

theorem u64_idx (k : Int) (n : Nat) (h : 0 < n) : ∃ j : Nat, j < n ∧ (IntKind.u64.wrap k).tmod (n : Int) = (j : Int) := by
  have h0 : 0 ≤ IntKind.u64.wrap k := by
    simp [IntKind.wrap, IntKind.signed, IntKind.bits]
    omega
  obtain ⟨u, hu⟩ : ∃ u : Nat, IntKind.u64.wrap k = (u : Int) := ⟨(IntKind.u64.wrap k).toNat, by omega⟩
  refine ⟨u % n, Nat.mod_lt _ h, ?_⟩
  rw [hu]
  rfl
/-- A value in a box. -/
structure OneV (w V : World) (k n : Int) (s : ByteArray) : Prop where
  v : V.heap[w.heap.size]? = some (.cells #[.int .u8 k, .int .i64 n, .string s] 24 (0, 0))
  low : Below w.heap.size w V
  rd0 : Rd w
theorem OneV.rd {w V : World} {k n : Int} {s : ByteArray} (h : OneV w V k n s) : Rd V := h.rd0.below h.low
theorem OneV.below {w V V' : World} {k n : Int} {s : ByteArray} (h : OneV w V k n s) (hb : Below V.heap.size V V') : OneV w V' k n s :=
  ⟨(hb.block _ (lt_of_block h.v)).trans h.v, h.low.trans (hb.mono h.low.size), h.rd0⟩
theorem OneV.cells {w V : World} {k n : Int} {s : ByteArray} (h : OneV w V k n s) : V.cell? ⟨w.heap.size, 0, none⟩ = some (.int .u8 k) ∧ V.cell? ⟨w.heap.size, 1, none⟩ = some (.int .i64 n) ∧ V.cell? ⟨w.heap.size, 2, none⟩ = some (.string s) :=
  ⟨by simp [World.cell?, h.v], by simp [World.cell?, h.v], by simp [World.cell?, h.v]⟩
/-- How a text tells its value's kind. -/
theorem kind_ways {X : ByteArray} (hp : 0 < X.size) {k : Int} (h : kindL (dl X) = k) :
    (((X[0].toNat : Int) == 34) = true ∧ k = 3) ∨ (((X[0].toNat : Int) == 34) = false ∧ (((X[0].toNat : Int) == 35) = true ∧ k = 5 ∨ ((X[0].toNat : Int) == 35) = false ∧ (((X.toList == [110, 117, 108, 108]) = true ∧ k = 0) ∨ ((X.toList == [110, 117, 108, 108]) = false ∧
      (((X.toList == [116, 114, 117, 101]) = true ∧ k = 4) ∨ ((X.toList == [116, 114, 117, 101]) = false ∧ (((X.toList == [102, 97, 108, 115, 101]) = true ∧ k = 4) ∨ ((X.toList == [102, 97, 108, 115, 101]) = false ∧
        ((decide (0 ≤ indexByte (dl X) 46) = true ∧ k = 2) ∨ (decide (0 ≤ indexByte (dl X) 46) = false ∧ k = 1)))))))))) := by
  subst h
  have hc : contains (dl X) [46] = decide (0 ≤ indexByte (dl X) 46) := by
    unfold contains
    congr 1
    have : index (dl X) [46] = indexByte (dl X) 46 := index_one _ _
    rw [this]
  unfold kindL
  rw [dl_head hp, hc, toList_dl]
  have e34 : (X[0] = 34) ↔ ((X[0].toNat : Int) == 34) = true := by
    rw [beq_iff_eq]
    constructor
    · intro e; rw [e]; rfl
    · intro e; exact UInt8.toNat_inj.1 (by show X[0].toNat = 34; omega)
  have e35 : (X[0] = 35) ↔ ((X[0].toNat : Int) == 35) = true := by
    rw [beq_iff_eq]
    constructor
    · intro e; rw [e]; rfl
    · intro e; exact UInt8.toNat_inj.1 (by show X[0].toNat = 35; omega)
  simp only [Option.some.injEq, e34, e35]
  by_cases h1 : ((X[0].toNat : Int) == 34) = true
  · exact .inl ⟨h1, by rw [if_pos h1]⟩
  refine .inr ⟨by simpa using h1, ?_⟩
  rw [if_neg h1]
  by_cases h2 : ((X[0].toNat : Int) == 35) = true
  · exact .inl ⟨h2, by rw [if_pos h2]⟩
  refine .inr ⟨by simpa using h2, ?_⟩
  rw [if_neg h2]
  by_cases h3 : dl X = [110, 117, 108, 108]
  · exact .inl ⟨by simpa using h3, by rw [if_pos h3]⟩
  refine .inr ⟨by simpa using h3, ?_⟩
  rw [if_neg h3]
  by_cases h4 : dl X = [116, 114, 117, 101]
  · exact .inl ⟨by simpa using h4, by rw [if_pos (.inl h4)]⟩
  refine .inr ⟨by simpa using h4, ?_⟩
  by_cases h5 : dl X = [102, 97, 108, 115, 101]
  · exact .inl ⟨by simpa using h5, by rw [if_pos (.inr h5)]⟩
  refine .inr ⟨by simpa using h5, ?_⟩
  rw [if_neg (fun q => by rcases q with q | q; exact h4 q; exact h5 q)]
  cases decide (0 ≤ indexByte (dl X) 46) with
  | true => exact .inl ⟨rfl, rfl⟩
  | false => exact .inr ⟨rfl, rfl⟩

set_option maxRecDepth 100000 in
set_option maxHeartbeats 8000000 in
theorem bytes_walk (vk vn : Int) (vS : ByteArray) (k : Int) (w : World) (hv : (⟨vk, vn, vS⟩ : Vl).fit) (hR : Rd w) :
    Calls Tryd.prog 5 #[.agg #[.int .u8 vk, .int .i64 vn, .string vS], .int .i64 k] w fun e w' => e = .returned (.bool true) ∧ Below w.heap.size w w' := by
  obtain ⟨W0, hW0⟩ : ∃ W0, w.alloc (.cells #[.int .u8 vk, .int .i64 vn, .string vS] 24) = W0 := ⟨_, rfl⟩
  have h0 : OneV w W0 vk vn vS := by
    rw [← hW0]
    exact ⟨(MapKept.heap_alloc w _).1, (Below.refl w.heap.size w).alloc (Nat.le_refl _) _, hR⟩
  have HW0 := hide hW0
  have H0 := hide h0
  have Hma := hide (may_any ⟨vk, vn, vS⟩ hv.1 W0)
  obtain ⟨c0, c1, c2⟩ := h0.cells
  clear hW0 h0
  cases hma : mayB ⟨vk, vn, vS⟩ with
  | false =>
    rw [hma] at Hma
    clear hma
    go_enter Tryd.func5, Tryd.ntmps5
    go_upto_region 1 with fail
    rw [HW0.out]
    go_wp2_with fail
    (with_reducible refine Hma.out.mono ?_)
    rintro e V ⟨rfl, hb⟩
    have h1 := H0.out.below hb
    have H1 := hide h1
    have Hk := hide (known03 V h1.rd)
    clear h1 hb c0 c1 c2
    go_wp2_with fail
    (with_reducible refine Hk.out.mono ?_)
    rintro e V2 ⟨rfl, hb⟩
    have HF := hide (H1.out.low.trans (hb.mono H1.out.low.size))
    clear hb
    go_wp2
    go_ret
    exact ⟨rfl, HF.out⟩
  | true =>
    rw [hma] at Hma
    rw [mayB_L] at hma
    have hX : dl (txtB ⟨vk, vn, vS⟩) = txtL vk vn (dl vS) := by show txtM _ _ _ = _; unfold txtM; rw [if_pos hma]
    obtain ⟨f1, f2, f3⟩ := txt_facts hma hv.2.1 hv.2.2
    have hkind := kindL_txt hma
    have hprs := prsL_txt hma hv.2.1 hv.2.2
    rw [← hX] at f1 f2 f3 hkind hprs
    have Ht := hide fun V (hV : OneV w V vk vn vS) => text_any ⟨vk, vn, vS⟩ V hv hV.rd
    obtain ⟨X, hXe⟩ : ∃ X, txtB ⟨vk, vn, vS⟩ = X := ⟨_, rfl⟩
    rw [hXe] at f1 f2 f3 hkind hprs Ht
    rw [dl_size] at f1 f2
    have Hpri := hide f3
    have Hprs := hide hprs
    clear f3 hprs hX hXe hma
    go_enter Tryd.func5, Tryd.ntmps5
    go_upto_region 1 with fail
    rw [HW0.out]
    go_wp2_with fail
    (with_reducible refine Hma.out.mono ?_)
    rintro e V ⟨rfl, hb⟩
    have h1 := H0.out.below hb
    have H1 := hide h1
    clear c0 c1 c2
    obtain ⟨c0, c1, c2⟩ := h1.cells
    clear h1 hb Hma H0 HW0
    go_wp2_with fail
    (with_reducible refine (Ht.out V H1.out).mono ?_)
    rintro e W1 ⟨rfl, hb⟩
    have h1 := H1.out.below hb
    clear H1
    have H1 := hide h1
    clear c0 c1 c2
    obtain ⟨c0, c1, c2⟩ := h1.cells
    have i1 : (1 : Int) ≤ (X.size : Int) := by omega
    have i2 : (X.size : Int) ≤ 402 := by omega
    clear h1 hb Ht
    go_wp2
    go_loop [27] (fun vi => ∃ i : Nat, i ≤ X.size ∧ vi = .int .i64 i) (fun vi => X.size - (intOf vi).toNat)
    case atStart => exact ⟨0, by omega, rfl⟩
    case round =>
      obtain ⟨i, hi, rfl⟩ := hrel
      by_cases hlt : i < X.size
      · have j1 : (i : Int) < (X.size : Int) := by omega
        have j2 : (0 : Int) ≤ (i : Int) := by omega
        have hpi : priC X[i] = true := by
          have := List.all_eq_true.1 Hpri.out X[i] (List.mem_of_getElem? (dl_get hlt))
          exact this
        unfold priC at hpi
        simp only [Bool.and_eq_true, decide_eq_true_eq] at hpi
        have j3 : (32 : Int) ≤ (X[i].toNat : Int) := by omega
        have j4 : (X[i].toNat : Int) ≤ 126 := by omega
        clear hpi
        go_wp2
        go_round
        case rel => exact ⟨i + 1, by omega, by go_num⟩
        case measure => simp [intOf]; omega
      · obtain rfl : i = X.size := by omega
        clear hlt hi
        have hpos : 0 < X.size := by omega
        have i0 : (0 : Int) < (X.size : Int) := by omega
        have hkw := kind_ways hpos hkind
        obtain ⟨j, hj, hje⟩ := u64_idx k X.size hpos
        have j1 : (j : Int) ≤ (X.size : Int) := by omega
        have j0 : (0 : Int) ≤ (j : Int) := by omega
        have hBs : (X.extract 0 j).size ≤ 9223372036854775807 := by rw [ByteArray.size_extract]; omega
        have hBl : (dl (X.extract 0 j)).length = j := by rw [dl_size, ByteArray.size_extract]; omega
        clear hkind
        have hcon := fun V => Tryd.strings_Contains_one X 46 V
        obtain ⟨cn, hcn⟩ : ∃ cn, decide (0 ≤ indexByte (dl X) 46) = cn := ⟨_, rfl⟩
        rw [hcn] at hkw
        simp only [show decide (0 ≤ indexByte X.data.toList 46) = cn from hcn] at hcon
        have Hcon := hide hcon
        clear hcon hcn
        obtain ⟨B, hB⟩ : ∃ B, X.extract 0 j = B := ⟨_, rfl⟩
        rw [hB] at hBs hBl
        have HB := hide hB
        clear hB
        rcases hkw with ⟨t1, hkk⟩ | ⟨t1, ⟨t2, hkk⟩ | ⟨t2, ⟨t3, hkk⟩ | ⟨t3, ⟨t4, hkk⟩ | ⟨t4, ⟨t5, hkk⟩ | ⟨t5, ⟨rfl, hkk⟩ | ⟨rfl, hkk⟩⟩⟩⟩⟩⟩
        · subst hkk
          go_upto_region 24 with fail
          rw [HB.out]
          clear HB hje j0 j1
          cases hp : prsL (dl B) with
          | error q =>
            have Hp := hide (parse_err _ W1 hBs H1.out.rd hp)
            have hq : (q == 0) = false := by
              have := prsL_err hp
              simp
              omega
            have hq2 : (q != 0) = true := by
              have := prsL_err hp
              simp
              omega
            clear hp
            go_wp2_with fail
            (with_reducible refine Hp.out.mono ?_)
            rintro e V ⟨rfl, hb⟩
            have h2 := H1.out.below (hb.alloc hb.size (.cells #[.int .u8 0, .int .i64 0, .string ⟨#[]⟩] 24))
            have H2 := hide h2
            have Hk := hide (known03 _ h2.rd)
            clear c0 c1 c2
            obtain ⟨c0, c1, c2⟩ := h2.cells
            clear h2 hb Hp
            go_wp2_with fail
            (with_reducible refine Hk.out.mono ?_)
            rintro e V2 ⟨rfl, hb⟩
            have HF := hide (H2.out.low.trans (hb.mono H2.out.low.size))
            clear hb
            go_wp2
            go_ret
            exact ⟨rfl, HF.out⟩
          | ok p2 =>
            obtain ⟨pk, pn, pz⟩ := p2
            have Hp := hide (parse_ok _ W1 hBs H1.out.rd hp)
            obtain ⟨f1, f2, f3⟩ := prsL_fit hp
            have htx := txtB_ok hp
            have hne : ¬ (pk = 3 ∧ pn = vn ∧ (⟨pz.toArray⟩ : ByteArray) = vS) := fun hh => by
              obtain ⟨rfl, rfl, e3⟩ := hh
              have h1 := (prsL_ok hp).2.1
              have h2 := (prsL_ok Hprs.out).2.1
              have e4 : pz = dl vS := by rw [← e3]
              rw [e4, h2] at h1
              have h5 := congrArg List.length h1
              rw [dl_size, hBl] at h5
              omega
            have hfit : (⟨pk, pn, ⟨pz.toArray⟩⟩ : Vl).fit := by
              refine ⟨?_, f1, f2⟩
              rw [← dl_size, dl_mk]
              rw [dl_size] at f3
              omega
            have Htx := hide fun V (hV : OneV w V 3 vn vS) => htx ▸ text_any ⟨pk, pn, ⟨pz.toArray⟩⟩ V hfit hV.rd
            clear hp f1 f2 f3 htx hfit
            go_wp2_with fail
            (with_reducible refine Hp.out.mono ?_)
            rintro e V ⟨rfl, hb⟩
            obtain ⟨V1, hV1⟩ : ∃ V1, V.alloc (.cells #[.int .u8 pk, .int .i64 pn, .string ⟨pz.toArray⟩] 24) = V1 := ⟨_, rfl⟩
            have hx := (MapKept.heap_alloc V (.cells #[.int .u8 pk, .int .i64 pn, .string ⟨pz.toArray⟩] 24)).1
            have h3 := H1.out.below (hb.alloc hb.size (.cells #[.int .u8 pk, .int .i64 pn, .string ⟨pz.toArray⟩] 24))
            rw [hV1] at hx h3
            have HV1 := hide hV1
            have H3 := hide h3
            have Ht2 := hide (Htx.out V1 h3)
            clear c0 c1 c2
            obtain ⟨d0, d1, d2⟩ := h3.cells
            have g0 : V1.cell? ⟨V.heap.size, 0, none⟩ = some (.int .u8 pk) := by simp [World.cell?, hx]
            have g1 : V1.cell? ⟨V.heap.size, 1, none⟩ = some (.int .i64 pn) := by simp [World.cell?, hx]
            have g2 : V1.cell? ⟨V.heap.size, 2, none⟩ = some (.string ⟨pz.toArray⟩) := by simp [World.cell?, hx]
            clear hV1 hx h3 hb Hp Htx
            go_upto_region 25 with fail
            rw [HV1.out]
            clear HV1
            obtain ⟨z, hz⟩ : ∃ z : ByteArray, (⟨pz.toArray⟩ : ByteArray) = z := ⟨_, rfl⟩
            rw [hz] at hne g2 Ht2 ⊢
            clear hz
            by_cases hk1 : pk = 3
            · subst hk1
              by_cases hn1 : pn = vn
              · subst hn1
                have hs1 : ¬ dl z = dl vS := fun e => hne ⟨rfl, rfl, dl_inj e⟩
                have s1 : (z.toList == vS.toList) = false := by rw [toList_dl, toList_dl]; simpa using hs1
                clear hne hs1
                go_wp2_with fail
                (with_reducible refine (Ht2.out).mono ?_)
                rintro e Z ⟨rfl, hb⟩
                have h4 := H3.out.below hb
                have H4 := hide h4
                have Hk := hide (known03 _ h4.rd)
                clear h4 hb d0 d1 d2 g0 g1 g2 Ht2 H3
                go_wp2_with fail
                (with_reducible refine Hk.out.mono ?_)
                rintro e Z2 ⟨rfl, hb⟩
                have HF := hide (H4.out.low.trans (hb.mono H4.out.low.size))
                clear hb
                go_wp2
                go_ret
                exact ⟨rfl, HF.out⟩
              · have n1 : (pn == vn) = false := by simpa using hn1
                clear hne hn1
                go_wp2_with fail
                (with_reducible refine (Ht2.out).mono ?_)
                rintro e Z ⟨rfl, hb⟩
                have h4 := H3.out.below hb
                have H4 := hide h4
                have Hk := hide (known03 _ h4.rd)
                clear h4 hb d0 d1 d2 g0 g1 g2 Ht2 H3
                go_wp2_with fail
                (with_reducible refine Hk.out.mono ?_)
                rintro e Z2 ⟨rfl, hb⟩
                have HF := hide (H4.out.low.trans (hb.mono H4.out.low.size))
                clear hb
                go_wp2
                go_ret
                exact ⟨rfl, HF.out⟩
            · have k1 : (pk == 3) = false := by simpa using hk1
              clear hne hk1
              go_wp2_with fail
              (with_reducible refine (Ht2.out).mono ?_)
              rintro e Z ⟨rfl, hb⟩
              have h4 := H3.out.below hb
              have H4 := hide h4
              have Hk := hide (known03 _ h4.rd)
              clear h4 hb d0 d1 d2 g0 g1 g2 Ht2 H3
              go_wp2_with fail
              (with_reducible refine Hk.out.mono ?_)
              rintro e Z2 ⟨rfl, hb⟩
              have HF := hide (H4.out.low.trans (hb.mono H4.out.low.size))
              clear hb
              go_wp2
              go_ret
              exact ⟨rfl, HF.out⟩
        · subst hkk
          go_upto_region 24 with fail
          rw [HB.out]
          clear HB hje j0 j1
          cases hp : prsL (dl B) with
          | error q =>
            have Hp := hide (parse_err _ W1 hBs H1.out.rd hp)
            have hq : (q == 0) = false := by
              have := prsL_err hp
              simp
              omega
            have hq2 : (q != 0) = true := by
              have := prsL_err hp
              simp
              omega
            clear hp
            go_wp2_with fail
            (with_reducible refine Hp.out.mono ?_)
            rintro e V ⟨rfl, hb⟩
            have h2 := H1.out.below (hb.alloc hb.size (.cells #[.int .u8 0, .int .i64 0, .string ⟨#[]⟩] 24))
            have H2 := hide h2
            have Hk := hide (known03 _ h2.rd)
            clear c0 c1 c2
            obtain ⟨c0, c1, c2⟩ := h2.cells
            clear h2 hb Hp
            go_wp2_with fail
            (with_reducible refine Hk.out.mono ?_)
            rintro e V2 ⟨rfl, hb⟩
            have HF := hide (H2.out.low.trans (hb.mono H2.out.low.size))
            clear hb
            go_wp2
            go_ret
            exact ⟨rfl, HF.out⟩
          | ok p2 =>
            obtain ⟨pk, pn, pz⟩ := p2
            have Hp := hide (parse_ok _ W1 hBs H1.out.rd hp)
            obtain ⟨f1, f2, f3⟩ := prsL_fit hp
            have htx := txtB_ok hp
            have hne : ¬ (pk = 5 ∧ pn = vn ∧ (⟨pz.toArray⟩ : ByteArray) = vS) := fun hh => by
              obtain ⟨rfl, rfl, e3⟩ := hh
              have h1 := (prsL_ok hp).2.1
              have h2 := (prsL_ok Hprs.out).2.1
              have e4 : pz = dl vS := by rw [← e3]
              rw [e4, h2] at h1
              have h5 := congrArg List.length h1
              rw [dl_size, hBl] at h5
              omega
            have hfit : (⟨pk, pn, ⟨pz.toArray⟩⟩ : Vl).fit := by
              refine ⟨?_, f1, f2⟩
              rw [← dl_size, dl_mk]
              rw [dl_size] at f3
              omega
            have Htx := hide fun V (hV : OneV w V 5 vn vS) => htx ▸ text_any ⟨pk, pn, ⟨pz.toArray⟩⟩ V hfit hV.rd
            clear hp f1 f2 f3 htx hfit
            go_wp2_with fail
            (with_reducible refine Hp.out.mono ?_)
            rintro e V ⟨rfl, hb⟩
            obtain ⟨V1, hV1⟩ : ∃ V1, V.alloc (.cells #[.int .u8 pk, .int .i64 pn, .string ⟨pz.toArray⟩] 24) = V1 := ⟨_, rfl⟩
            have hx := (MapKept.heap_alloc V (.cells #[.int .u8 pk, .int .i64 pn, .string ⟨pz.toArray⟩] 24)).1
            have h3 := H1.out.below (hb.alloc hb.size (.cells #[.int .u8 pk, .int .i64 pn, .string ⟨pz.toArray⟩] 24))
            rw [hV1] at hx h3
            have HV1 := hide hV1
            have H3 := hide h3
            have Ht2 := hide (Htx.out V1 h3)
            clear c0 c1 c2
            obtain ⟨d0, d1, d2⟩ := h3.cells
            have g0 : V1.cell? ⟨V.heap.size, 0, none⟩ = some (.int .u8 pk) := by simp [World.cell?, hx]
            have g1 : V1.cell? ⟨V.heap.size, 1, none⟩ = some (.int .i64 pn) := by simp [World.cell?, hx]
            have g2 : V1.cell? ⟨V.heap.size, 2, none⟩ = some (.string ⟨pz.toArray⟩) := by simp [World.cell?, hx]
            clear hV1 hx h3 hb Hp Htx
            go_upto_region 25 with fail
            rw [HV1.out]
            clear HV1
            obtain ⟨z, hz⟩ : ∃ z : ByteArray, (⟨pz.toArray⟩ : ByteArray) = z := ⟨_, rfl⟩
            rw [hz] at hne g2 Ht2 ⊢
            clear hz
            by_cases hk1 : pk = 5
            · subst hk1
              by_cases hn1 : pn = vn
              · subst hn1
                have hs1 : ¬ dl z = dl vS := fun e => hne ⟨rfl, rfl, dl_inj e⟩
                have s1 : (z.toList == vS.toList) = false := by rw [toList_dl, toList_dl]; simpa using hs1
                clear hne hs1
                go_wp2_with fail
                (with_reducible refine (Ht2.out).mono ?_)
                rintro e Z ⟨rfl, hb⟩
                have h4 := H3.out.below hb
                have H4 := hide h4
                have Hk := hide (known03 _ h4.rd)
                clear h4 hb d0 d1 d2 g0 g1 g2 Ht2 H3
                go_wp2_with fail
                (with_reducible refine Hk.out.mono ?_)
                rintro e Z2 ⟨rfl, hb⟩
                have HF := hide (H4.out.low.trans (hb.mono H4.out.low.size))
                clear hb
                go_wp2
                go_ret
                exact ⟨rfl, HF.out⟩
              · have n1 : (pn == vn) = false := by simpa using hn1
                clear hne hn1
                go_wp2_with fail
                (with_reducible refine (Ht2.out).mono ?_)
                rintro e Z ⟨rfl, hb⟩
                have h4 := H3.out.below hb
                have H4 := hide h4
                have Hk := hide (known03 _ h4.rd)
                clear h4 hb d0 d1 d2 g0 g1 g2 Ht2 H3
                go_wp2_with fail
                (with_reducible refine Hk.out.mono ?_)
                rintro e Z2 ⟨rfl, hb⟩
                have HF := hide (H4.out.low.trans (hb.mono H4.out.low.size))
                clear hb
                go_wp2
                go_ret
                exact ⟨rfl, HF.out⟩
            · have k1 : (pk == 5) = false := by simpa using hk1
              clear hne hk1
              go_wp2_with fail
              (with_reducible refine (Ht2.out).mono ?_)
              rintro e Z ⟨rfl, hb⟩
              have h4 := H3.out.below hb
              have H4 := hide h4
              have Hk := hide (known03 _ h4.rd)
              clear h4 hb d0 d1 d2 g0 g1 g2 Ht2 H3
              go_wp2_with fail
              (with_reducible refine Hk.out.mono ?_)
              rintro e Z2 ⟨rfl, hb⟩
              have HF := hide (H4.out.low.trans (hb.mono H4.out.low.size))
              clear hb
              go_wp2
              go_ret
              exact ⟨rfl, HF.out⟩
        · subst hkk
          go_upto_region 24 with fail
          rw [HB.out]
          clear HB hje j0 j1
          cases hp : prsL (dl B) with
          | error q =>
            have Hp := hide (parse_err _ W1 hBs H1.out.rd hp)
            have hq : (q == 0) = false := by
              have := prsL_err hp
              simp
              omega
            have hq2 : (q != 0) = true := by
              have := prsL_err hp
              simp
              omega
            clear hp
            go_wp2_with fail
            (with_reducible refine Hp.out.mono ?_)
            rintro e V ⟨rfl, hb⟩
            have h2 := H1.out.below (hb.alloc hb.size (.cells #[.int .u8 0, .int .i64 0, .string ⟨#[]⟩] 24))
            have H2 := hide h2
            have Hk := hide (known03 _ h2.rd)
            clear c0 c1 c2
            obtain ⟨c0, c1, c2⟩ := h2.cells
            clear h2 hb Hp
            go_wp2_with fail
            (with_reducible refine Hk.out.mono ?_)
            rintro e V2 ⟨rfl, hb⟩
            have HF := hide (H2.out.low.trans (hb.mono H2.out.low.size))
            clear hb
            go_wp2
            go_ret
            exact ⟨rfl, HF.out⟩
          | ok p2 =>
            obtain ⟨pk, pn, pz⟩ := p2
            have Hp := hide (parse_ok _ W1 hBs H1.out.rd hp)
            obtain ⟨f1, f2, f3⟩ := prsL_fit hp
            have htx := txtB_ok hp
            have hne : ¬ (pk = 0 ∧ pn = vn ∧ (⟨pz.toArray⟩ : ByteArray) = vS) := fun hh => by
              obtain ⟨rfl, rfl, e3⟩ := hh
              have h1 := (prsL_ok hp).2.1
              have h2 := (prsL_ok Hprs.out).2.1
              have e4 : pz = dl vS := by rw [← e3]
              rw [e4, h2] at h1
              have h5 := congrArg List.length h1
              rw [dl_size, hBl] at h5
              omega
            have hfit : (⟨pk, pn, ⟨pz.toArray⟩⟩ : Vl).fit := by
              refine ⟨?_, f1, f2⟩
              rw [← dl_size, dl_mk]
              rw [dl_size] at f3
              omega
            have Htx := hide fun V (hV : OneV w V 0 vn vS) => htx ▸ text_any ⟨pk, pn, ⟨pz.toArray⟩⟩ V hfit hV.rd
            clear hp f1 f2 f3 htx hfit
            go_wp2_with fail
            (with_reducible refine Hp.out.mono ?_)
            rintro e V ⟨rfl, hb⟩
            obtain ⟨V1, hV1⟩ : ∃ V1, V.alloc (.cells #[.int .u8 pk, .int .i64 pn, .string ⟨pz.toArray⟩] 24) = V1 := ⟨_, rfl⟩
            have hx := (MapKept.heap_alloc V (.cells #[.int .u8 pk, .int .i64 pn, .string ⟨pz.toArray⟩] 24)).1
            have h3 := H1.out.below (hb.alloc hb.size (.cells #[.int .u8 pk, .int .i64 pn, .string ⟨pz.toArray⟩] 24))
            rw [hV1] at hx h3
            have HV1 := hide hV1
            have H3 := hide h3
            have Ht2 := hide (Htx.out V1 h3)
            clear c0 c1 c2
            obtain ⟨d0, d1, d2⟩ := h3.cells
            have g0 : V1.cell? ⟨V.heap.size, 0, none⟩ = some (.int .u8 pk) := by simp [World.cell?, hx]
            have g1 : V1.cell? ⟨V.heap.size, 1, none⟩ = some (.int .i64 pn) := by simp [World.cell?, hx]
            have g2 : V1.cell? ⟨V.heap.size, 2, none⟩ = some (.string ⟨pz.toArray⟩) := by simp [World.cell?, hx]
            clear hV1 hx h3 hb Hp Htx
            go_upto_region 25 with fail
            rw [HV1.out]
            clear HV1
            obtain ⟨z, hz⟩ : ∃ z : ByteArray, (⟨pz.toArray⟩ : ByteArray) = z := ⟨_, rfl⟩
            rw [hz] at hne g2 Ht2 ⊢
            clear hz
            by_cases hk1 : pk = 0
            · subst hk1
              by_cases hn1 : pn = vn
              · subst hn1
                have hs1 : ¬ dl z = dl vS := fun e => hne ⟨rfl, rfl, dl_inj e⟩
                have s1 : (z.toList == vS.toList) = false := by rw [toList_dl, toList_dl]; simpa using hs1
                clear hne hs1
                go_wp2_with fail
                (with_reducible refine (Ht2.out).mono ?_)
                rintro e Z ⟨rfl, hb⟩
                have h4 := H3.out.below hb
                have H4 := hide h4
                have Hk := hide (known03 _ h4.rd)
                clear h4 hb d0 d1 d2 g0 g1 g2 Ht2 H3
                go_wp2_with fail
                (with_reducible refine Hk.out.mono ?_)
                rintro e Z2 ⟨rfl, hb⟩
                have HF := hide (H4.out.low.trans (hb.mono H4.out.low.size))
                clear hb
                go_wp2
                go_ret
                exact ⟨rfl, HF.out⟩
              · have n1 : (pn == vn) = false := by simpa using hn1
                clear hne hn1
                go_wp2_with fail
                (with_reducible refine (Ht2.out).mono ?_)
                rintro e Z ⟨rfl, hb⟩
                have h4 := H3.out.below hb
                have H4 := hide h4
                have Hk := hide (known03 _ h4.rd)
                clear h4 hb d0 d1 d2 g0 g1 g2 Ht2 H3
                go_wp2_with fail
                (with_reducible refine Hk.out.mono ?_)
                rintro e Z2 ⟨rfl, hb⟩
                have HF := hide (H4.out.low.trans (hb.mono H4.out.low.size))
                clear hb
                go_wp2
                go_ret
                exact ⟨rfl, HF.out⟩
            · have k1 : (pk == 0) = false := by simpa using hk1
              clear hne hk1
              go_wp2_with fail
              (with_reducible refine (Ht2.out).mono ?_)
              rintro e Z ⟨rfl, hb⟩
              have h4 := H3.out.below hb
              have H4 := hide h4
              have Hk := hide (known03 _ h4.rd)
              clear h4 hb d0 d1 d2 g0 g1 g2 Ht2 H3
              go_wp2_with fail
              (with_reducible refine Hk.out.mono ?_)
              rintro e Z2 ⟨rfl, hb⟩
              have HF := hide (H4.out.low.trans (hb.mono H4.out.low.size))
              clear hb
              go_wp2
              go_ret
              exact ⟨rfl, HF.out⟩
        · subst hkk
          go_upto_region 24 with fail
          rw [HB.out]
          clear HB hje j0 j1
          cases hp : prsL (dl B) with
          | error q =>
            have Hp := hide (parse_err _ W1 hBs H1.out.rd hp)
            have hq : (q == 0) = false := by
              have := prsL_err hp
              simp
              omega
            have hq2 : (q != 0) = true := by
              have := prsL_err hp
              simp
              omega
            clear hp
            go_wp2_with fail
            (with_reducible refine Hp.out.mono ?_)
            rintro e V ⟨rfl, hb⟩
            have h2 := H1.out.below (hb.alloc hb.size (.cells #[.int .u8 0, .int .i64 0, .string ⟨#[]⟩] 24))
            have H2 := hide h2
            have Hk := hide (known03 _ h2.rd)
            clear c0 c1 c2
            obtain ⟨c0, c1, c2⟩ := h2.cells
            clear h2 hb Hp
            go_wp2_with fail
            (with_reducible refine Hk.out.mono ?_)
            rintro e V2 ⟨rfl, hb⟩
            have HF := hide (H2.out.low.trans (hb.mono H2.out.low.size))
            clear hb
            go_wp2
            go_ret
            exact ⟨rfl, HF.out⟩
          | ok p2 =>
            obtain ⟨pk, pn, pz⟩ := p2
            have Hp := hide (parse_ok _ W1 hBs H1.out.rd hp)
            obtain ⟨f1, f2, f3⟩ := prsL_fit hp
            have htx := txtB_ok hp
            have hne : ¬ (pk = 4 ∧ pn = vn ∧ (⟨pz.toArray⟩ : ByteArray) = vS) := fun hh => by
              obtain ⟨rfl, rfl, e3⟩ := hh
              have h1 := (prsL_ok hp).2.1
              have h2 := (prsL_ok Hprs.out).2.1
              have e4 : pz = dl vS := by rw [← e3]
              rw [e4, h2] at h1
              have h5 := congrArg List.length h1
              rw [dl_size, hBl] at h5
              omega
            have hfit : (⟨pk, pn, ⟨pz.toArray⟩⟩ : Vl).fit := by
              refine ⟨?_, f1, f2⟩
              rw [← dl_size, dl_mk]
              rw [dl_size] at f3
              omega
            have Htx := hide fun V (hV : OneV w V 4 vn vS) => htx ▸ text_any ⟨pk, pn, ⟨pz.toArray⟩⟩ V hfit hV.rd
            clear hp f1 f2 f3 htx hfit
            go_wp2_with fail
            (with_reducible refine Hp.out.mono ?_)
            rintro e V ⟨rfl, hb⟩
            obtain ⟨V1, hV1⟩ : ∃ V1, V.alloc (.cells #[.int .u8 pk, .int .i64 pn, .string ⟨pz.toArray⟩] 24) = V1 := ⟨_, rfl⟩
            have hx := (MapKept.heap_alloc V (.cells #[.int .u8 pk, .int .i64 pn, .string ⟨pz.toArray⟩] 24)).1
            have h3 := H1.out.below (hb.alloc hb.size (.cells #[.int .u8 pk, .int .i64 pn, .string ⟨pz.toArray⟩] 24))
            rw [hV1] at hx h3
            have HV1 := hide hV1
            have H3 := hide h3
            have Ht2 := hide (Htx.out V1 h3)
            clear c0 c1 c2
            obtain ⟨d0, d1, d2⟩ := h3.cells
            have g0 : V1.cell? ⟨V.heap.size, 0, none⟩ = some (.int .u8 pk) := by simp [World.cell?, hx]
            have g1 : V1.cell? ⟨V.heap.size, 1, none⟩ = some (.int .i64 pn) := by simp [World.cell?, hx]
            have g2 : V1.cell? ⟨V.heap.size, 2, none⟩ = some (.string ⟨pz.toArray⟩) := by simp [World.cell?, hx]
            clear hV1 hx h3 hb Hp Htx
            go_upto_region 25 with fail
            rw [HV1.out]
            clear HV1
            obtain ⟨z, hz⟩ : ∃ z : ByteArray, (⟨pz.toArray⟩ : ByteArray) = z := ⟨_, rfl⟩
            rw [hz] at hne g2 Ht2 ⊢
            clear hz
            by_cases hk1 : pk = 4
            · subst hk1
              by_cases hn1 : pn = vn
              · subst hn1
                have hs1 : ¬ dl z = dl vS := fun e => hne ⟨rfl, rfl, dl_inj e⟩
                have s1 : (z.toList == vS.toList) = false := by rw [toList_dl, toList_dl]; simpa using hs1
                clear hne hs1
                go_wp2_with fail
                (with_reducible refine (Ht2.out).mono ?_)
                rintro e Z ⟨rfl, hb⟩
                have h4 := H3.out.below hb
                have H4 := hide h4
                have Hk := hide (known03 _ h4.rd)
                clear h4 hb d0 d1 d2 g0 g1 g2 Ht2 H3
                go_wp2_with fail
                (with_reducible refine Hk.out.mono ?_)
                rintro e Z2 ⟨rfl, hb⟩
                have HF := hide (H4.out.low.trans (hb.mono H4.out.low.size))
                clear hb
                go_wp2
                go_ret
                exact ⟨rfl, HF.out⟩
              · have n1 : (pn == vn) = false := by simpa using hn1
                clear hne hn1
                go_wp2_with fail
                (with_reducible refine (Ht2.out).mono ?_)
                rintro e Z ⟨rfl, hb⟩
                have h4 := H3.out.below hb
                have H4 := hide h4
                have Hk := hide (known03 _ h4.rd)
                clear h4 hb d0 d1 d2 g0 g1 g2 Ht2 H3
                go_wp2_with fail
                (with_reducible refine Hk.out.mono ?_)
                rintro e Z2 ⟨rfl, hb⟩
                have HF := hide (H4.out.low.trans (hb.mono H4.out.low.size))
                clear hb
                go_wp2
                go_ret
                exact ⟨rfl, HF.out⟩
            · have k1 : (pk == 4) = false := by simpa using hk1
              clear hne hk1
              go_wp2_with fail
              (with_reducible refine (Ht2.out).mono ?_)
              rintro e Z ⟨rfl, hb⟩
              have h4 := H3.out.below hb
              have H4 := hide h4
              have Hk := hide (known03 _ h4.rd)
              clear h4 hb d0 d1 d2 g0 g1 g2 Ht2 H3
              go_wp2_with fail
              (with_reducible refine Hk.out.mono ?_)
              rintro e Z2 ⟨rfl, hb⟩
              have HF := hide (H4.out.low.trans (hb.mono H4.out.low.size))
              clear hb
              go_wp2
              go_ret
              exact ⟨rfl, HF.out⟩
        · subst hkk
          go_upto_region 24 with fail
          rw [HB.out]
          clear HB hje j0 j1
          cases hp : prsL (dl B) with
          | error q =>
            have Hp := hide (parse_err _ W1 hBs H1.out.rd hp)
            have hq : (q == 0) = false := by
              have := prsL_err hp
              simp
              omega
            have hq2 : (q != 0) = true := by
              have := prsL_err hp
              simp
              omega
            clear hp
            go_wp2_with fail
            (with_reducible refine Hp.out.mono ?_)
            rintro e V ⟨rfl, hb⟩
            have h2 := H1.out.below (hb.alloc hb.size (.cells #[.int .u8 0, .int .i64 0, .string ⟨#[]⟩] 24))
            have H2 := hide h2
            have Hk := hide (known03 _ h2.rd)
            clear c0 c1 c2
            obtain ⟨c0, c1, c2⟩ := h2.cells
            clear h2 hb Hp
            go_wp2_with fail
            (with_reducible refine Hk.out.mono ?_)
            rintro e V2 ⟨rfl, hb⟩
            have HF := hide (H2.out.low.trans (hb.mono H2.out.low.size))
            clear hb
            go_wp2
            go_ret
            exact ⟨rfl, HF.out⟩
          | ok p2 =>
            obtain ⟨pk, pn, pz⟩ := p2
            have Hp := hide (parse_ok _ W1 hBs H1.out.rd hp)
            obtain ⟨f1, f2, f3⟩ := prsL_fit hp
            have htx := txtB_ok hp
            have hne : ¬ (pk = 4 ∧ pn = vn ∧ (⟨pz.toArray⟩ : ByteArray) = vS) := fun hh => by
              obtain ⟨rfl, rfl, e3⟩ := hh
              have h1 := (prsL_ok hp).2.1
              have h2 := (prsL_ok Hprs.out).2.1
              have e4 : pz = dl vS := by rw [← e3]
              rw [e4, h2] at h1
              have h5 := congrArg List.length h1
              rw [dl_size, hBl] at h5
              omega
            have hfit : (⟨pk, pn, ⟨pz.toArray⟩⟩ : Vl).fit := by
              refine ⟨?_, f1, f2⟩
              rw [← dl_size, dl_mk]
              rw [dl_size] at f3
              omega
            have Htx := hide fun V (hV : OneV w V 4 vn vS) => htx ▸ text_any ⟨pk, pn, ⟨pz.toArray⟩⟩ V hfit hV.rd
            clear hp f1 f2 f3 htx hfit
            go_wp2_with fail
            (with_reducible refine Hp.out.mono ?_)
            rintro e V ⟨rfl, hb⟩
            obtain ⟨V1, hV1⟩ : ∃ V1, V.alloc (.cells #[.int .u8 pk, .int .i64 pn, .string ⟨pz.toArray⟩] 24) = V1 := ⟨_, rfl⟩
            have hx := (MapKept.heap_alloc V (.cells #[.int .u8 pk, .int .i64 pn, .string ⟨pz.toArray⟩] 24)).1
            have h3 := H1.out.below (hb.alloc hb.size (.cells #[.int .u8 pk, .int .i64 pn, .string ⟨pz.toArray⟩] 24))
            rw [hV1] at hx h3
            have HV1 := hide hV1
            have H3 := hide h3
            have Ht2 := hide (Htx.out V1 h3)
            clear c0 c1 c2
            obtain ⟨d0, d1, d2⟩ := h3.cells
            have g0 : V1.cell? ⟨V.heap.size, 0, none⟩ = some (.int .u8 pk) := by simp [World.cell?, hx]
            have g1 : V1.cell? ⟨V.heap.size, 1, none⟩ = some (.int .i64 pn) := by simp [World.cell?, hx]
            have g2 : V1.cell? ⟨V.heap.size, 2, none⟩ = some (.string ⟨pz.toArray⟩) := by simp [World.cell?, hx]
            clear hV1 hx h3 hb Hp Htx
            go_upto_region 25 with fail
            rw [HV1.out]
            clear HV1
            obtain ⟨z, hz⟩ : ∃ z : ByteArray, (⟨pz.toArray⟩ : ByteArray) = z := ⟨_, rfl⟩
            rw [hz] at hne g2 Ht2 ⊢
            clear hz
            by_cases hk1 : pk = 4
            · subst hk1
              by_cases hn1 : pn = vn
              · subst hn1
                have hs1 : ¬ dl z = dl vS := fun e => hne ⟨rfl, rfl, dl_inj e⟩
                have s1 : (z.toList == vS.toList) = false := by rw [toList_dl, toList_dl]; simpa using hs1
                clear hne hs1
                go_wp2_with fail
                (with_reducible refine (Ht2.out).mono ?_)
                rintro e Z ⟨rfl, hb⟩
                have h4 := H3.out.below hb
                have H4 := hide h4
                have Hk := hide (known03 _ h4.rd)
                clear h4 hb d0 d1 d2 g0 g1 g2 Ht2 H3
                go_wp2_with fail
                (with_reducible refine Hk.out.mono ?_)
                rintro e Z2 ⟨rfl, hb⟩
                have HF := hide (H4.out.low.trans (hb.mono H4.out.low.size))
                clear hb
                go_wp2
                go_ret
                exact ⟨rfl, HF.out⟩
              · have n1 : (pn == vn) = false := by simpa using hn1
                clear hne hn1
                go_wp2_with fail
                (with_reducible refine (Ht2.out).mono ?_)
                rintro e Z ⟨rfl, hb⟩
                have h4 := H3.out.below hb
                have H4 := hide h4
                have Hk := hide (known03 _ h4.rd)
                clear h4 hb d0 d1 d2 g0 g1 g2 Ht2 H3
                go_wp2_with fail
                (with_reducible refine Hk.out.mono ?_)
                rintro e Z2 ⟨rfl, hb⟩
                have HF := hide (H4.out.low.trans (hb.mono H4.out.low.size))
                clear hb
                go_wp2
                go_ret
                exact ⟨rfl, HF.out⟩
            · have k1 : (pk == 4) = false := by simpa using hk1
              clear hne hk1
              go_wp2_with fail
              (with_reducible refine (Ht2.out).mono ?_)
              rintro e Z ⟨rfl, hb⟩
              have h4 := H3.out.below hb
              have H4 := hide h4
              have Hk := hide (known03 _ h4.rd)
              clear h4 hb d0 d1 d2 g0 g1 g2 Ht2 H3
              go_wp2_with fail
              (with_reducible refine Hk.out.mono ?_)
              rintro e Z2 ⟨rfl, hb⟩
              have HF := hide (H4.out.low.trans (hb.mono H4.out.low.size))
              clear hb
              go_wp2
              go_ret
              exact ⟨rfl, HF.out⟩
        · subst hkk
          go_wp2_with fail
          (with_reducible refine (Hcon.out _).mono ?_)
          rintro e Vc ⟨rfl, hVc⟩
          obtain rfl := hVc.symm
          clear hVc
          go_upto_region 24 with fail
          rw [HB.out]
          clear HB hje j0 j1
          cases hp : prsL (dl B) with
          | error q =>
            have Hp := hide (parse_err _ W1 hBs H1.out.rd hp)
            have hq : (q == 0) = false := by
              have := prsL_err hp
              simp
              omega
            have hq2 : (q != 0) = true := by
              have := prsL_err hp
              simp
              omega
            clear hp
            go_wp2_with fail
            (with_reducible refine Hp.out.mono ?_)
            rintro e V ⟨rfl, hb⟩
            have h2 := H1.out.below (hb.alloc hb.size (.cells #[.int .u8 0, .int .i64 0, .string ⟨#[]⟩] 24))
            have H2 := hide h2
            have Hk := hide (known03 _ h2.rd)
            clear c0 c1 c2
            obtain ⟨c0, c1, c2⟩ := h2.cells
            clear h2 hb Hp
            go_wp2_with fail
            (with_reducible refine Hk.out.mono ?_)
            rintro e V2 ⟨rfl, hb⟩
            have HF := hide (H2.out.low.trans (hb.mono H2.out.low.size))
            clear hb
            go_wp2
            go_ret
            exact ⟨rfl, HF.out⟩
          | ok p2 =>
            obtain ⟨pk, pn, pz⟩ := p2
            have Hp := hide (parse_ok _ W1 hBs H1.out.rd hp)
            obtain ⟨f1, f2, f3⟩ := prsL_fit hp
            have htx := txtB_ok hp
            have hne : ¬ (pk = 2 ∧ pn = vn ∧ (⟨pz.toArray⟩ : ByteArray) = vS) := fun hh => by
              obtain ⟨rfl, rfl, e3⟩ := hh
              have h1 := (prsL_ok hp).2.1
              have h2 := (prsL_ok Hprs.out).2.1
              have e4 : pz = dl vS := by rw [← e3]
              rw [e4, h2] at h1
              have h5 := congrArg List.length h1
              rw [dl_size, hBl] at h5
              omega
            have hfit : (⟨pk, pn, ⟨pz.toArray⟩⟩ : Vl).fit := by
              refine ⟨?_, f1, f2⟩
              rw [← dl_size, dl_mk]
              rw [dl_size] at f3
              omega
            have Htx := hide fun V (hV : OneV w V 2 vn vS) => htx ▸ text_any ⟨pk, pn, ⟨pz.toArray⟩⟩ V hfit hV.rd
            clear hp f1 f2 f3 htx hfit
            go_wp2_with fail
            (with_reducible refine Hp.out.mono ?_)
            rintro e V ⟨rfl, hb⟩
            obtain ⟨V1, hV1⟩ : ∃ V1, V.alloc (.cells #[.int .u8 pk, .int .i64 pn, .string ⟨pz.toArray⟩] 24) = V1 := ⟨_, rfl⟩
            have hx := (MapKept.heap_alloc V (.cells #[.int .u8 pk, .int .i64 pn, .string ⟨pz.toArray⟩] 24)).1
            have h3 := H1.out.below (hb.alloc hb.size (.cells #[.int .u8 pk, .int .i64 pn, .string ⟨pz.toArray⟩] 24))
            rw [hV1] at hx h3
            have HV1 := hide hV1
            have H3 := hide h3
            have Ht2 := hide (Htx.out V1 h3)
            clear c0 c1 c2
            obtain ⟨d0, d1, d2⟩ := h3.cells
            have g0 : V1.cell? ⟨V.heap.size, 0, none⟩ = some (.int .u8 pk) := by simp [World.cell?, hx]
            have g1 : V1.cell? ⟨V.heap.size, 1, none⟩ = some (.int .i64 pn) := by simp [World.cell?, hx]
            have g2 : V1.cell? ⟨V.heap.size, 2, none⟩ = some (.string ⟨pz.toArray⟩) := by simp [World.cell?, hx]
            clear hV1 hx h3 hb Hp Htx
            go_upto_region 25 with fail
            rw [HV1.out]
            clear HV1
            obtain ⟨z, hz⟩ : ∃ z : ByteArray, (⟨pz.toArray⟩ : ByteArray) = z := ⟨_, rfl⟩
            rw [hz] at hne g2 Ht2 ⊢
            clear hz
            by_cases hk1 : pk = 2
            · subst hk1
              by_cases hn1 : pn = vn
              · subst hn1
                have hs1 : ¬ dl z = dl vS := fun e => hne ⟨rfl, rfl, dl_inj e⟩
                have s1 : (z.toList == vS.toList) = false := by rw [toList_dl, toList_dl]; simpa using hs1
                clear hne hs1
                go_wp2_with fail
                (with_reducible refine (Ht2.out).mono ?_)
                rintro e Z ⟨rfl, hb⟩
                have h4 := H3.out.below hb
                have H4 := hide h4
                have Hk := hide (known03 _ h4.rd)
                clear h4 hb d0 d1 d2 g0 g1 g2 Ht2 H3
                go_wp2_with fail
                (with_reducible refine Hk.out.mono ?_)
                rintro e Z2 ⟨rfl, hb⟩
                have HF := hide (H4.out.low.trans (hb.mono H4.out.low.size))
                clear hb
                go_wp2
                go_ret
                exact ⟨rfl, HF.out⟩
              · have n1 : (pn == vn) = false := by simpa using hn1
                clear hne hn1
                go_wp2_with fail
                (with_reducible refine (Ht2.out).mono ?_)
                rintro e Z ⟨rfl, hb⟩
                have h4 := H3.out.below hb
                have H4 := hide h4
                have Hk := hide (known03 _ h4.rd)
                clear h4 hb d0 d1 d2 g0 g1 g2 Ht2 H3
                go_wp2_with fail
                (with_reducible refine Hk.out.mono ?_)
                rintro e Z2 ⟨rfl, hb⟩
                have HF := hide (H4.out.low.trans (hb.mono H4.out.low.size))
                clear hb
                go_wp2
                go_ret
                exact ⟨rfl, HF.out⟩
            · have k1 : (pk == 2) = false := by simpa using hk1
              clear hne hk1
              go_wp2_with fail
              (with_reducible refine (Ht2.out).mono ?_)
              rintro e Z ⟨rfl, hb⟩
              have h4 := H3.out.below hb
              have H4 := hide h4
              have Hk := hide (known03 _ h4.rd)
              clear h4 hb d0 d1 d2 g0 g1 g2 Ht2 H3
              go_wp2_with fail
              (with_reducible refine Hk.out.mono ?_)
              rintro e Z2 ⟨rfl, hb⟩
              have HF := hide (H4.out.low.trans (hb.mono H4.out.low.size))
              clear hb
              go_wp2
              go_ret
              exact ⟨rfl, HF.out⟩
        · subst hkk
          go_wp2_with fail
          (with_reducible refine (Hcon.out _).mono ?_)
          rintro e Vc ⟨rfl, hVc⟩
          obtain rfl := hVc.symm
          clear hVc
          go_upto_region 24 with fail
          rw [HB.out]
          clear HB hje j0 j1
          cases hp : prsL (dl B) with
          | error q =>
            have Hp := hide (parse_err _ W1 hBs H1.out.rd hp)
            have hq : (q == 0) = false := by
              have := prsL_err hp
              simp
              omega
            have hq2 : (q != 0) = true := by
              have := prsL_err hp
              simp
              omega
            clear hp
            go_wp2_with fail
            (with_reducible refine Hp.out.mono ?_)
            rintro e V ⟨rfl, hb⟩
            have h2 := H1.out.below (hb.alloc hb.size (.cells #[.int .u8 0, .int .i64 0, .string ⟨#[]⟩] 24))
            have H2 := hide h2
            have Hk := hide (known03 _ h2.rd)
            clear c0 c1 c2
            obtain ⟨c0, c1, c2⟩ := h2.cells
            clear h2 hb Hp
            go_wp2_with fail
            (with_reducible refine Hk.out.mono ?_)
            rintro e V2 ⟨rfl, hb⟩
            have HF := hide (H2.out.low.trans (hb.mono H2.out.low.size))
            clear hb
            go_wp2
            go_ret
            exact ⟨rfl, HF.out⟩
          | ok p2 =>
            obtain ⟨pk, pn, pz⟩ := p2
            have Hp := hide (parse_ok _ W1 hBs H1.out.rd hp)
            obtain ⟨f1, f2, f3⟩ := prsL_fit hp
            have htx := txtB_ok hp
            have hne : ¬ (pk = 1 ∧ pn = vn ∧ (⟨pz.toArray⟩ : ByteArray) = vS) := fun hh => by
              obtain ⟨rfl, rfl, e3⟩ := hh
              have h1 := (prsL_ok hp).2.1
              have h2 := (prsL_ok Hprs.out).2.1
              have e4 : pz = dl vS := by rw [← e3]
              rw [e4, h2] at h1
              have h5 := congrArg List.length h1
              rw [dl_size, hBl] at h5
              omega
            have hfit : (⟨pk, pn, ⟨pz.toArray⟩⟩ : Vl).fit := by
              refine ⟨?_, f1, f2⟩
              rw [← dl_size, dl_mk]
              rw [dl_size] at f3
              omega
            have Htx := hide fun V (hV : OneV w V 1 vn vS) => htx ▸ text_any ⟨pk, pn, ⟨pz.toArray⟩⟩ V hfit hV.rd
            clear hp f1 f2 f3 htx hfit
            go_wp2_with fail
            (with_reducible refine Hp.out.mono ?_)
            rintro e V ⟨rfl, hb⟩
            obtain ⟨V1, hV1⟩ : ∃ V1, V.alloc (.cells #[.int .u8 pk, .int .i64 pn, .string ⟨pz.toArray⟩] 24) = V1 := ⟨_, rfl⟩
            have hx := (MapKept.heap_alloc V (.cells #[.int .u8 pk, .int .i64 pn, .string ⟨pz.toArray⟩] 24)).1
            have h3 := H1.out.below (hb.alloc hb.size (.cells #[.int .u8 pk, .int .i64 pn, .string ⟨pz.toArray⟩] 24))
            rw [hV1] at hx h3
            have HV1 := hide hV1
            have H3 := hide h3
            have Ht2 := hide (Htx.out V1 h3)
            clear c0 c1 c2
            obtain ⟨d0, d1, d2⟩ := h3.cells
            have g0 : V1.cell? ⟨V.heap.size, 0, none⟩ = some (.int .u8 pk) := by simp [World.cell?, hx]
            have g1 : V1.cell? ⟨V.heap.size, 1, none⟩ = some (.int .i64 pn) := by simp [World.cell?, hx]
            have g2 : V1.cell? ⟨V.heap.size, 2, none⟩ = some (.string ⟨pz.toArray⟩) := by simp [World.cell?, hx]
            clear hV1 hx h3 hb Hp Htx
            go_upto_region 25 with fail
            rw [HV1.out]
            clear HV1
            obtain ⟨z, hz⟩ : ∃ z : ByteArray, (⟨pz.toArray⟩ : ByteArray) = z := ⟨_, rfl⟩
            rw [hz] at hne g2 Ht2 ⊢
            clear hz
            by_cases hk1 : pk = 1
            · subst hk1
              by_cases hn1 : pn = vn
              · subst hn1
                have hs1 : ¬ dl z = dl vS := fun e => hne ⟨rfl, rfl, dl_inj e⟩
                have s1 : (z.toList == vS.toList) = false := by rw [toList_dl, toList_dl]; simpa using hs1
                clear hne hs1
                go_wp2_with fail
                (with_reducible refine (Ht2.out).mono ?_)
                rintro e Z ⟨rfl, hb⟩
                have h4 := H3.out.below hb
                have H4 := hide h4
                have Hk := hide (known03 _ h4.rd)
                clear h4 hb d0 d1 d2 g0 g1 g2 Ht2 H3
                go_wp2_with fail
                (with_reducible refine Hk.out.mono ?_)
                rintro e Z2 ⟨rfl, hb⟩
                have HF := hide (H4.out.low.trans (hb.mono H4.out.low.size))
                clear hb
                go_wp2
                go_ret
                exact ⟨rfl, HF.out⟩
              · have n1 : (pn == vn) = false := by simpa using hn1
                clear hne hn1
                go_wp2_with fail
                (with_reducible refine (Ht2.out).mono ?_)
                rintro e Z ⟨rfl, hb⟩
                have h4 := H3.out.below hb
                have H4 := hide h4
                have Hk := hide (known03 _ h4.rd)
                clear h4 hb d0 d1 d2 g0 g1 g2 Ht2 H3
                go_wp2_with fail
                (with_reducible refine Hk.out.mono ?_)
                rintro e Z2 ⟨rfl, hb⟩
                have HF := hide (H4.out.low.trans (hb.mono H4.out.low.size))
                clear hb
                go_wp2
                go_ret
                exact ⟨rfl, HF.out⟩
            · have k1 : (pk == 1) = false := by simpa using hk1
              clear hne hk1
              go_wp2_with fail
              (with_reducible refine (Ht2.out).mono ?_)
              rintro e Z ⟨rfl, hb⟩
              have h4 := H3.out.below hb
              have H4 := hide h4
              have Hk := hide (known03 _ h4.rd)
              clear h4 hb d0 d1 d2 g0 g1 g2 Ht2 H3
              go_wp2_with fail
              (with_reducible refine Hk.out.mono ?_)
              rintro e Z2 ⟨rfl, hb⟩
              have HF := hide (H4.out.low.trans (hb.mono H4.out.low.size))
              clear hb
              go_wp2
              go_ret
              exact ⟨rfl, HF.out⟩
end Go.Proofs.YthkjhegahgpfhaaDoor
