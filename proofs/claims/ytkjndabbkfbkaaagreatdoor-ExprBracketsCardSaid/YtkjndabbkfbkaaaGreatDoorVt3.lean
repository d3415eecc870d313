/- vtext: digits, number, text, word, name. -/
import Derived.Test.YtkjndabbkfbkaaaGreatDoorVt2
import Derived.Test.YtkjndabbkfbkaaaGreatDoorVm
namespace Go.Proofs.YtkjndabbkfbkaaaGreatDoor
open Go Go.RowKit Go.Lib Go.Sort Go.Shelf

/-- No digit. -/
def badD (n : Nat) : Bool := decide (n < 48 ∨ 57 < n)
theorem badD_hi (r : Nat) (h : 128 ≤ r) : badD r = true := by
  have h1 : r < 48 ∨ 57 < r := by omega
  simp [badD, h1]
theorem badD_fn (x : Nat) (W : World) (hx : x ≤ 1114111) : Calls Tryz.prog 177 #[.int .i32 (x : Int)] W fun e w' => e = .returned (.bool (badD x)) ∧ w' = W := by
  by_cases h1 : x < 48
  · have d1 : decide ((x : Int) < 48) = true := by simp; omega
    go_enter Tryz.func177, Tryz.ntmps177
    go_wp2
    go_ret
    exact ⟨by simp [badD, h1], rfl⟩
  · have d1 : decide ((x : Int) < 48) = false := by simp; omega
    by_cases h2 : 57 < x
    · have d2 : decide ((57 : Int) < (x : Int)) = true := by simp; omega
      go_enter Tryz.func177, Tryz.ntmps177
      go_wp2
      go_ret
      exact ⟨by simp [badD, h2], rfl⟩
    · have d2 : decide ((57 : Int) < (x : Int)) = false := by simp; omega
      go_enter Tryz.func177, Tryz.ntmps177
      go_wp2
      go_ret
      exact ⟨by simp [badD, h1, h2], rfl⟩
theorem containsD (s : ByteArray) (w : World) : Calls Tryz.prog 159 #[.string s, .func (.func 177) #[] #[]] w fun e w' => e = .returned (.bool (s.data.toList.any fun b => badD b.toNat)) ∧ Below w.heap.size w w' := by
  rw [← idx_bytes badD badD_hi]
  exact Tryz.strings_ContainsFunc_runes 177 #[] (enters_of Tryz.func177 (by kernel_rfl) rfl) badD s w fun W x hx _ => (badD_fn x W hx).mono fun e w' ⟨he, hw⟩ => ⟨he, 0, hw⟩
theorem digL_eq (s : ByteArray) : digL (dl s) = (!decide (s.size = 0) && !(s.data.toList.any fun b => badD b.toNat)) := by
  unfold digL
  have he : decide (s.size = 0) = (dl s).isEmpty := by
    rw [← dl_size]
    cases dl s <;> simp
  rw [he]
  congr 1
  rw [List.not_any_eq_all_not]
  congr 1
  funext b
  simp only [badD, digC]
  by_cases h1 : b.toNat < 48 ∨ 57 < b.toNat
  · rw [decide_eq_true h1]
    by_cases h2 : 48 ≤ b.toNat
    · have h3 : ¬ b.toNat ≤ 57 := by omega
      simp [h3]
    · simp [h2]
  · have h2 : 48 ≤ b.toNat := by omega
    have h3 : b.toNat ≤ 57 := by omega
    rw [decide_eq_false h1]
    simp [h2, h3]
theorem digits_any (s : ByteArray) (w : World) : Calls Tryz.prog 154 #[.string s] w fun e w' => e = .returned (.bool (digL (dl s))) ∧ Below w.heap.size w w' := by
  rw [digL_eq]
  obtain ⟨q, hq⟩ : ∃ q, decide (s.size = 0) = q := ⟨_, rfl⟩
  obtain ⟨he1, he2, he3⟩ := empty_cases s hq
  rw [hq]
  clear hq
  have hcc := containsD s w
  obtain ⟨b, hb⟩ : ∃ b, (s.data.toList.any fun b => badD b.toNat) = b := ⟨_, rfl⟩
  rw [hb] at hcc ⊢
  have Hc := hide hcc
  clear hcc hb
  cases q
  · have he := he3 rfl
    clear he2 he3
    go_enter Tryz.func154, Tryz.ntmps154
    go_wp2_with fail
    (with_reducible refine Hc.out.mono ?_)
    rintro e w1 ⟨rfl, hb1⟩
    go_wp2
    go_ret
    exact ⟨ret_bool (by simp), hb1⟩
  · have he := he2 rfl
    clear he2 he3
    go_enter Tryz.func154, Tryz.ntmps154
    go_wp2
    go_ret
    exact ⟨ret_bool (by simp), Below.refl _ _⟩
/-- What number answers. -/
def NumPost (w : World) (r : Except Int (Int × Int)) (e : Ending) (w' : World) : Prop :=
  Below w.heap.size w w' ∧ match r with
    | .ok p => e = .returned (.tuple #[.agg #[.int .u8 p.1, .int .i64 p.2, .string ⟨#[]⟩], .int .i64 0])
    | .error q => ∃ k n s, e = .returned (.tuple #[.agg #[.int .u8 k, .int .i64 n, .string s], .int .i64 q])
theorem trimP (s : ByteArray) : Lib.trimPrefix (dl s) [45] = (if (dl s).head? = some 45 then (dl s).tail else dl s) := by
  unfold Lib.trimPrefix Lib.hasPrefix
  cases dl s with
  | nil => rfl
  | cons c r =>
    by_cases h : c = 45
    · subst h; rfl
    · have : (45 == c) = false := by simpa using fun e : (45 : UInt8) = c => h e.symm
      simp [List.isPrefixOf, this, h]
theorem hasP (s : ByteArray) : Lib.hasPrefix (dl s) [45] = decide ((dl s).head? = some 45) := by
  unfold Lib.hasPrefix
  cases dl s with
  | nil => rfl
  | cons c r =>
    by_cases h : c = 45
    · subst h; rfl
    · have : (45 == c) = false := by simpa using fun e : (45 : UInt8) = c => h e.symm
      simp [List.isPrefixOf, this, h]

/-- ParseInt. -/
def PintOk (V : World) (n : Int) (e : Ending) (w' : World) : Prop := e = .returned (.tuple #[.int .i64 n, .nilIface]) ∧ Below V.heap.size V w'
def PintNo (V : World) (e : Ending) (w' : World) : Prop := ∃ z t N, e = .returned (.tuple #[.int .i64 z, .iface t (.pointer (some ⟨N, 0, none⟩))]) ∧ Below V.heap.size V w'
theorem pint (D : ByteArray) (hD : D.size ≤ 10000) (V : World) (hR : Rd V) : Calls Tryz.prog 155 #[.string D, .int .i64 10, .int .i64 64] V (fun e w' => match parseIntB 64 (dl D) with
    | .ok n => PintOk V n e w'
    | _ => PintNo V e w') := by
  cases h : parseIntB 64 (dl D)
  case ok n =>
    refine (Tryz.strconv_ParseInt_10_at64_ok D (by omega) n h V).mono ?_
    rintro e w' ⟨he, hw⟩
    refine ⟨he, ?_⟩
    rcases hw with rfl | ⟨t, rfl⟩
    · exact Below.refl _ _
    · exact Lib.bytesWorld_below _ _ _
  case range =>
    obtain ⟨ev, h1, h2⟩ := hR.rng
    refine (Tryz.strconv_ParseInt_10_at64_range D (by omega) h ev V h1 h2).mono ?_
    rintro e w' ⟨N, he, _, _, hb⟩
    exact ⟨_, _, N, he, hb⟩
  · obtain ⟨ev, h1, h2⟩ := hR.syn
    refine (Any.strconv_ParseInt_10_at64_syntax Tryz.laysC174 D (by omega) h ev V h1 h2).mono ?_
    rintro e w' ⟨N, he, _, _, hb⟩
    exact ⟨_, _, N, he, hb⟩
/-- Two values in boxes, the result and v. -/
structure NSt (w V : World) (k n : Int) : Prop where
  res : V.heap[w.heap.size]? = some (.cells #[.int .u8 0, .int .i64 0, .string ⟨#[]⟩] 32 (0, 0))
  v : V.heap[w.heap.size + 1]? = some (.cells #[.int .u8 k, .int .i64 n, .string ⟨#[]⟩] 32 (0, 0))
  low : Below w.heap.size w V
  rd0 : Rd w
theorem NSt.rd {w V : World} {k n : Int} (h : NSt w V k n) : Rd V := h.rd0.below h.low
theorem NSt.below {w V V' : World} {k n : Int} (h : NSt w V k n) (hb : Below V.heap.size V V') : NSt w V' k n :=
  ⟨(hb.block _ (lt_of_block h.res)).trans h.res, (hb.block _ (lt_of_block h.v)).trans h.v, h.low.trans (hb.mono h.low.size), h.rd0⟩
theorem NSt.cells {w V : World} {k n : Int} (h : NSt w V k n) : V.cell? ⟨w.heap.size, 0, none⟩ = some (.int .u8 0) ∧ V.cell? ⟨w.heap.size, 1, none⟩ = some (.int .i64 0) ∧ V.cell? ⟨w.heap.size, 2, none⟩ = some (.string ⟨#[]⟩) ∧
    V.cell? ⟨w.heap.size + 1, 0, none⟩ = some (.int .u8 k) ∧ V.cell? ⟨w.heap.size + 1, 1, none⟩ = some (.int .i64 n) ∧ V.cell? ⟨w.heap.size + 1, 2, none⟩ = some (.string ⟨#[]⟩) ∧
    (∀ i, V.frozen? ⟨w.heap.size, i, none⟩ = false) ∧ (∀ i, V.frozen? ⟨w.heap.size + 1, i, none⟩ = false) ∧ w.heap.size + 1 < V.heap.size :=
  ⟨by simp [World.cell?, h.res], by simp [World.cell?, h.res], by simp [World.cell?, h.res], by simp [World.cell?, h.v], by simp [World.cell?, h.v], by simp [World.cell?, h.v],
    fun i => by simp [World.frozen?, h.res], fun i => by simp [World.frozen?, h.v], lt_of_block h.v⟩
theorem NSt.two {w V : World} {k n : Int} (h : NSt w V k n) : NSt w (V.setCell ⟨w.heap.size + 1, 0, none⟩ (.int .u8 2)) 2 n :=
  ⟨((Only.refl [w.heap.size + 1] V).setCell (.inl (by simp)) _ |>.block _ (lt_of_block h.res) (by simp)).trans h.res, by rw [setCell_heap h.v]; rfl, h.low.setCell (by simp) _, h.rd0⟩
set_option maxRecDepth 100000 in
set_option maxHeartbeats 2000000 in
theorem number_any (s : ByteArray) (w : World) (hs : s.size ≤ 402) (hR : Rd w) :
    Calls Tryz.prog 131 #[.string s] w (NumPost w (numP (dl s))) := by
  obtain ⟨m, hm⟩ := hR.ml
  have h1 := fun V : World => Tryz.strings_TrimPrefix s ⟨#[45]⟩ V
  obtain ⟨T, hT⟩ : ∃ T : ByteArray, (⟨(Lib.trimPrefix (dl s) [45]).toArray⟩ : ByteArray) = T := ⟨_, rfl⟩
  have e1 : (⟨(Lib.trimPrefix s.data.toList (⟨#[45]⟩ : ByteArray).data.toList).toArray⟩ : ByteArray) = T := hT
  simp only [e1] at h1
  have hTd : dl T = if (dl s).head? = some 45 then (dl s).tail else dl s := by rw [← hT, dl_mk, trimP]
  have hTl : T.size ≤ 402 := by
    rw [← dl_size, hTd]
    have := dl_size s
    split
    · rw [List.length_tail]; omega
    · omega
  have h2 := fun V (hV : Below w.heap.size w V) => Tryz.strings_Cut T ⟨#[46]⟩ m V (by omega) (bcell hV hm)
  obtain ⟨c, hc⟩ : ∃ c, Lib.cut (dl T) [46] = c := ⟨_, rfl⟩
  have e2 : Lib.cut T.data.toList (⟨#[46]⟩ : ByteArray).data.toList = c := hc
  simp only [e2] at h2
  have hcl : c.1.length ≤ 402 ∧ c.2.1.length ≤ 402 := by
    rw [← hc]
    have := dl_size T
    unfold Lib.cut
    split
    · simp only [List.length_take, List.length_drop]; omega
    · simp; omega
  obtain ⟨cw, cr, cp⟩ := c
  obtain ⟨X, hX⟩ : ∃ X : ByteArray, (⟨cw.toArray⟩ : ByteArray) = X := ⟨_, rfl⟩
  obtain ⟨Y, hY⟩ : ∃ Y : ByteArray, (⟨cr.toArray⟩ : ByteArray) = Y := ⟨_, rfl⟩
  have hXd : dl X = cw := by rw [← hX]
  have hYd : dl Y = cr := by rw [← hY]
  simp only at h2 hcl
  rw [hX, hY] at h2
  have hXl : X.size ≤ 402 := by rw [← dl_size, hXd]; exact hcl.1
  have hYl : Y.size ≤ 402 := by rw [← dl_size, hYd]; exact hcl.2
  obtain ⟨ng, hng⟩ : ∃ ng, decide ((dl s).head? = some 45) = ng := ⟨_, rfl⟩
  have h3 := fun V : World => Tryz.strings_HasPrefix s ⟨#[45]⟩ V
  have e3 : Lib.hasPrefix s.data.toList (⟨#[45]⟩ : ByteArray).data.toList = ng := (hasP s).trans hng
  simp only [e3] at h3
  have HN : Hid (numP (dl s) = if (!digL (dl X) || (decide (1 < (dl X).length) && (dl X).head? == some 48)) || (cp && (!digL (dl Y) || decide (4 < (dl Y).length))) then .error 4
    else match parseIntB 64 (if ng then 45 :: (if cp then dl X ++ (dl Y ++ [48, 48, 48, 48]).take 4 else dl X) else (if cp then dl X ++ (dl Y ++ [48, 48, 48, 48]).take 4 else dl X)) with
      | .ok n => .ok (if cp then 2 else 1, n)
      | _ => .error 9) := hide (by
    unfold numP
    rw [← hTd, hc, hXd, hYd, ← hng]
    simp only [decide_eq_true_eq]
    rfl)
  have H1 := hide h1
  have H2 := hide h2
  have H3 := hide h3
  have HR := hide hR
  clear h1 h2 h3 hR hm hT hTd hc hX hY hXd hYd hng e1 e2 e3 hcl
  obtain ⟨W0, hW0⟩ : ∃ W0, w.alloc (.cells #[.int .u8 0, .int .i64 0, .string ⟨#[]⟩] 32) = W0 := ⟨_, rfl⟩
  have hb0 : Below w.heap.size w W0 := by rw [← hW0]; exact (Below.refl w.heap.size w).alloc (Nat.le_refl _) _
  have hbx := (MapKept.heap_alloc w (.cells #[.int .u8 0, .int .i64 0, .string ⟨#[]⟩] 32)).1
  have hz0 : W0.heap.size = w.heap.size + 1 := by rw [← hW0]; simp
  rw [hW0] at hbx
  have HW0 := hide hW0
  have Hz0 := hide hz0
  have H2' := hide (H2.out W0 hb0)
  have Hb0 := hide hb0
  have Hbx := hide hbx
  clear hW0 hb0 hbx hz0
  go_enter Tryz.func131, Tryz.ntmps131
  go_upto_region 1 with fail
  rw [HW0.out]
  go_wp2_with fail
  (with_reducible refine (H1.out _).mono ?_)
  rintro e V ⟨rfl, hV⟩
  obtain rfl := hV.symm
  clear hV
  go_wp2_with fail
  (with_reducible refine H2'.out.mono ?_)
  rintro e V ⟨rfl, nd, hV⟩
  have hbV : Below W0.heap.size W0 V := by rw [hV]; exact ⟨rfl, rfl, rfl, Nat.le_refl _, fun _ _ => rfl⟩
  have hzV : V.heap.size = w.heap.size + 1 := by rw [hV, ← Hz0.out]; rfl
  have hbx := (hbV.block w.heap.size (by rw [Hz0.out]; omega)).trans Hbx.out
  clear hV
  obtain ⟨W1, hW1⟩ : ∃ W1, V.alloc (.cells #[.int .u8 1, .int .i64 0, .string ⟨#[]⟩] 32) = W1 := ⟨_, rfl⟩
  have hb1 : Below V.heap.size V W1 := by rw [← hW1]; exact (Below.refl V.heap.size V).alloc (Nat.le_refl _) _
  have hz1 : W1.heap.size = w.heap.size + 2 := by rw [← hW1, World.size_alloc, hzV]
  have hby := (MapKept.heap_alloc V (.cells #[.int .u8 1, .int .i64 0, .string ⟨#[]⟩] 32)).1
  rw [hW1, hzV] at hby
  have hbx1 := (hb1.block w.heap.size (by omega)).trans hbx
  have hbw1 : Below w.heap.size w W1 := Hb0.out.trans ((hbV.trans (hb1.mono (by rw [hzV, Hz0.out]; omega))).mono (by rw [Hz0.out]; omega))
  have hR1 := HR.out
  have HS := hide (And.intro hbx1 (And.intro hby (And.intro hbw1 hR1)))
  have HW1 := hide hW1
  have HzV := hide hzV
  have Hz1 := hide hz1
  clear hbV hbx hb1 hz1 hby hbx1 hbw1 hR1 hW1 H2 H2' HW0 Hb0 Hbx Hz0 HR
  go_upto_region 3 with fail
  rw [HW1.out]
  clear hzV
  have hst : NSt w W1 1 0 := ⟨HS.out.1, HS.out.2.1, HS.out.2.2.1, HS.out.2.2.2⟩
  have Hst := hide hst
  have Hd := hide (digits_any X W1)
  clear hst HS HW1
  obtain ⟨dx, hdx⟩ : ∃ dx, digL (dl X) = dx := ⟨_, rfl⟩
  rw [hdx] at HN Hd
  cases dx with
  | false =>
    simp only [Bool.not_false, Bool.true_or, if_true] at HN
    go_wp2_with fail
    (with_reducible refine Hd.out.mono ?_)
    rintro e V ⟨rfl, hb⟩
    have h1 := Hst.out.below hb
    obtain ⟨a0, a1, a2, b0, b1, b2, f0, f1, hlt⟩ := h1.cells
    have HB := hide h1.low
    clear h1 hb Hd Hst
    go_wp2
    refine bodyPost_ret (v := .tuple #[.agg #[.int .u8 1, .int .i64 0, .string ⟨#[]⟩], .int .i64 4]) (by simp [results, Tryz.results131, go_sem, *]) rfl ?_
    rw [HN.out]
    exact ⟨((HB.out.setCell (by simp) _).setCell (by simp) _).setCell (by simp) _, _, _, _, rfl⟩
  | true =>
    have hx0 : 0 < X.size := by
      rw [← dl_size]
      cases h : dl X with
      | nil => rw [h] at hdx; cases hdx
      | cons => simp
    have i0 : (0 : Int) < (X.size : Int) := by omega
    have hh := dl_head hx0
    rw [dl_size, hh] at HN
    have Hdy := hide fun V => digits_any Y V
    by_cases hz : 1 < X.size ∧ X[0].toNat = 48
    · have d1 : decide ((1 : Int) < (X.size : Int)) = true := by simp; omega
      have d2 : ((X[0].toNat : Int) == 48) = true := by simp; omega
      have hb48 : X[0] = 48 := UInt8.toNat_inj.1 hz.2
      rw [decide_eq_true hz.1, hb48] at HN
      simp only [beq_self_eq_true, Bool.and_self, Bool.or_true, Bool.true_or, if_true] at HN
      clear hz hb48 hh hdx
      go_wp2_with fail
      (with_reducible refine Hd.out.mono ?_)
      rintro e V ⟨rfl, hb⟩
      have h1 := Hst.out.below hb
      obtain ⟨a0, a1, a2, b0, b1, b2, f0, f1, hlt⟩ := h1.cells
      have HB := hide h1.low
      clear h1 hb Hd Hst
      go_wp2
      refine bodyPost_ret (v := .tuple #[.agg #[.int .u8 1, .int .i64 0, .string ⟨#[]⟩], .int .i64 4]) (by simp [results, Tryz.results131, go_sem, *]) rfl ?_
      rw [HN.out]
      exact ⟨((HB.out.setCell (by simp) _).setCell (by simp) _).setCell (by simp) _, _, _, _, rfl⟩
    · have hzz : (decide (1 < X.size) && (some X[0] == some 48)) = false := by
        by_cases h1 : 1 < X.size
        · have : X[0] ≠ 48 := fun e => hz ⟨h1, by rw [e]; rfl⟩
          simp [this]
        · simp [h1]
      rw [hzz] at HN
      simp only [Bool.not_true, Bool.or_false, Bool.false_or] at HN
      have d1 : (decide ((1 : Int) < (X.size : Int)) = true ∧ ((X[0].toNat : Int) == 48) = false) ∨ decide ((1 : Int) < (X.size : Int)) = false := by
        by_cases h1 : 1 < X.size
        · have : X[0].toNat ≠ 48 := fun e => hz ⟨h1, e⟩
          exact .inl ⟨by simp; omega, by simp; omega⟩
        · exact .inr (by simp; omega)
      clear hz hzz hh hdx
      rcases d1 with ⟨d1, d2⟩ | d1
      all_goals
        cases cp with
        | false =>
          simp only [Bool.false_and, Bool.false_eq_true, if_false] at HN
          go_wp2_with fail
          (with_reducible refine Hd.out.mono ?_)
          rintro e V ⟨rfl, hb⟩
          have h1 := Hst.out.below hb
          obtain ⟨a0, a1, a2, b0, b1, b2, f0, f1, hlt⟩ := h1.cells
          have Hs1 := hide h1
          clear h1 hb Hd Hst
          go_wp2_with fail
          (with_reducible refine (H3.out _).mono ?_)
          rintro e V' ⟨rfl, hV⟩
          obtain rfl := hV.symm
          clear hV
          cases ng with
          | false =>
            have hDd : dl (X) = dl X := by rfl
            have hDl : (X).size ≤ 10000 := by omega
            have hp := pint (X) hDl V (Hs1.out.rd)
            obtain ⟨r, hr⟩ : ∃ r, parseIntB 64 (dl (X)) = r := ⟨_, rfl⟩
            rw [hr] at hp
            rw [hDd] at hr
            simp only [Bool.false_eq_true, if_false] at HN
            rw [hr] at HN
            clear hDd hr
            cases r
            case ok n =>
              have Hp := hide hp
              have HN := hide HN.out
              clear hp
              go_wp2_with fail
              (with_reducible refine Hp.out.mono ?_)
              rintro e V2 ⟨rfl, hb⟩
              have h1 := Hs1.out.below hb
              obtain ⟨a0, a1, a2, b0, b1, b2, f0, f1, hlt⟩ := h1.cells
              have HB := hide h1.low
              clear h1 hb Hp Hs1
              go_wp2
              refine bodyPost_ret (v := .tuple #[.agg #[.int .u8 1, .int .i64 n, .string ⟨#[]⟩], .int .i64 0]) (by simp [results, Tryz.results131, go_sem, *]) rfl ?_
              rw [HN.out]
              exact ⟨(((HB.out.setCell (by simp) _).setCell (by simp) _).setCell (by simp) _).setCell (by simp) _, rfl⟩
            all_goals
              have Hp := hide hp
              have HN := hide HN.out
              clear hp
              go_wp2_with fail
              (with_reducible refine Hp.out.mono ?_)
              rintro e V2 ⟨pz, pt, pN, rfl, hb⟩
              have h1 := Hs1.out.below hb
              obtain ⟨a0, a1, a2, b0, b1, b2, f0, f1, hlt⟩ := h1.cells
              have HB := hide h1.low
              clear h1 hb Hp Hs1
              go_wp2
              refine bodyPost_ret (v := .tuple #[.agg #[.int .u8 1, .int .i64 0, .string ⟨#[]⟩], .int .i64 9]) (by simp [results, Tryz.results131, go_sem, *]) rfl ?_
              rw [HN.out]
              exact ⟨((HB.out.setCell (by simp) _).setCell (by simp) _).setCell (by simp) _, _, _, _, rfl⟩
          | true =>
            have hDd : dl (⟨#[45]⟩ ++ X) = 45 :: dl X := by rw [dl_app]; rfl
            have hDl : (⟨#[45]⟩ ++ X).size ≤ 10000 := by have e : (⟨#[45]⟩ : ByteArray).size = 1 := rfl; rw [ByteArray.size_append, e]; omega
            have hp := pint (⟨#[45]⟩ ++ X) hDl V (Hs1.out.rd)
            obtain ⟨r, hr⟩ : ∃ r, parseIntB 64 (dl (⟨#[45]⟩ ++ X)) = r := ⟨_, rfl⟩
            rw [hr] at hp
            rw [hDd] at hr
            simp only [if_true] at HN
            rw [hr] at HN
            clear hDd hr
            cases r
            case ok n =>
              have Hp := hide hp
              have HN := hide HN.out
              clear hp
              go_wp2_with fail
              (with_reducible refine Hp.out.mono ?_)
              rintro e V2 ⟨rfl, hb⟩
              have h1 := Hs1.out.below hb
              obtain ⟨a0, a1, a2, b0, b1, b2, f0, f1, hlt⟩ := h1.cells
              have HB := hide h1.low
              clear h1 hb Hp Hs1
              go_wp2
              refine bodyPost_ret (v := .tuple #[.agg #[.int .u8 1, .int .i64 n, .string ⟨#[]⟩], .int .i64 0]) (by simp [results, Tryz.results131, go_sem, *]) rfl ?_
              rw [HN.out]
              exact ⟨(((HB.out.setCell (by simp) _).setCell (by simp) _).setCell (by simp) _).setCell (by simp) _, rfl⟩
            all_goals
              have Hp := hide hp
              have HN := hide HN.out
              clear hp
              go_wp2_with fail
              (with_reducible refine Hp.out.mono ?_)
              rintro e V2 ⟨pz, pt, pN, rfl, hb⟩
              have h1 := Hs1.out.below hb
              obtain ⟨a0, a1, a2, b0, b1, b2, f0, f1, hlt⟩ := h1.cells
              have HB := hide h1.low
              clear h1 hb Hp Hs1
              go_wp2
              refine bodyPost_ret (v := .tuple #[.agg #[.int .u8 1, .int .i64 0, .string ⟨#[]⟩], .int .i64 9]) (by simp [results, Tryz.results131, go_sem, *]) rfl ?_
              rw [HN.out]
              exact ⟨((HB.out.setCell (by simp) _).setCell (by simp) _).setCell (by simp) _, _, _, _, rfl⟩
        | true =>
          simp only [Bool.true_and, if_true] at HN
          go_wp2_with fail
          (with_reducible refine Hd.out.mono ?_)
          rintro e V1 ⟨rfl, hb⟩
          have h1 := Hst.out.below hb
          have Hst := hide h1
          have Hdy' := hide (Hdy.out V1)
          clear h1 hb Hd Hdy
          obtain ⟨dy, hdy⟩ : ∃ dy, digL (dl Y) = dy := ⟨_, rfl⟩
          rw [hdy] at HN Hdy'
          clear hdy
          cases dy with
          | false =>
            simp only [Bool.not_false, Bool.true_or, if_true] at HN
            go_wp2_with fail
            (with_reducible refine Hdy'.out.mono ?_)
            rintro e V ⟨rfl, hb⟩
            have h1 := Hst.out.below hb
            obtain ⟨a0, a1, a2, b0, b1, b2, f0, f1, hlt⟩ := h1.cells
            have HB := hide h1.low
            clear h1 hb Hdy' Hst
            go_wp2
            refine bodyPost_ret (v := .tuple #[.agg #[.int .u8 1, .int .i64 0, .string ⟨#[]⟩], .int .i64 4]) (by simp [results, Tryz.results131, go_sem, *]) rfl ?_
            rw [HN.out]
            exact ⟨((HB.out.setCell (by simp) _).setCell (by simp) _).setCell (by simp) _, _, _, _, rfl⟩
          | true =>
            rw [dl_size] at HN
            by_cases hy4 : 4 < Y.size
            · have d4 : decide ((4 : Int) < (Y.size : Int)) = true := by simp; omega
              rw [decide_eq_true hy4] at HN
              simp only [Bool.or_true, if_true] at HN
              go_wp2_with fail
              (with_reducible refine Hdy'.out.mono ?_)
              rintro e V ⟨rfl, hb⟩
              have h1 := Hst.out.below hb
              obtain ⟨a0, a1, a2, b0, b1, b2, f0, f1, hlt⟩ := h1.cells
              have HB := hide h1.low
              clear h1 hb Hdy' Hst
              go_wp2
              refine bodyPost_ret (v := .tuple #[.agg #[.int .u8 1, .int .i64 0, .string ⟨#[]⟩], .int .i64 4]) (by simp [results, Tryz.results131, go_sem, *]) rfl ?_
              rw [HN.out]
              exact ⟨((HB.out.setCell (by simp) _).setCell (by simp) _).setCell (by simp) _, _, _, _, rfl⟩
            · have d4 : decide ((4 : Int) < (Y.size : Int)) = false := by simp; omega
              rw [decide_eq_false hy4] at HN
              simp only [Bool.not_true, Bool.or_false, Bool.false_eq_true, if_false] at HN
              have e4 : (Y ++ ⟨#[48, 48, 48, 48]⟩ : ByteArray).size = Y.size + 4 := by
                have e : (⟨#[48, 48, 48, 48]⟩ : ByteArray).size = 4 := rfl
                rw [ByteArray.size_append, e]
              have i4 : (4 : Int) ≤ ((Y ++ ⟨#[48, 48, 48, 48]⟩ : ByteArray).size : Int) := by omega
              have i5 : 4 ≤ (Y ++ ⟨#[48, 48, 48, 48]⟩ : ByteArray).size := by omega
              have hexd : dl ((Y ++ ⟨#[48, 48, 48, 48]⟩ : ByteArray).extract 0 4) = (dl Y ++ [48, 48, 48, 48]).take 4 := by
                rw [dl_ext, dl_app]
                rfl
              have hexl : ((Y ++ ⟨#[48, 48, 48, 48]⟩ : ByteArray).extract 0 4).size ≤ 4 := by
                rw [← dl_size, hexd, List.length_take]
                omega
              have Hexd := hide hexd
              clear e4 hexd
              go_wp2_with fail
              (with_reducible refine Hdy'.out.mono ?_)
              rintro e V1 ⟨rfl, hb⟩
              have h1 := Hst.out.below hb
              obtain ⟨a0, a1, a2, b0, b1, b2, f0, f1, hlt⟩ := h1.cells
              obtain ⟨V, hV⟩ : ∃ V, V1.setCell ⟨w.heap.size + 1, 0, none⟩ (.int .u8 2) = V := ⟨_, rfl⟩
              have h2 : NSt w V 2 0 := by rw [← hV]; exact h1.two
              have Hs1 := hide h2
              have HV := hide hV
              clear h1 h2 hb Hdy' Hst hV
              go_upto_region 7 with fail
              rw [HV.out]
              clear HV a0 a1 a2 b0 b1 b2 f0 f1
              go_wp2_with fail
              (with_reducible refine (H3.out _).mono ?_)
              rintro e V' ⟨rfl, hV⟩
              obtain rfl := hV.symm
              clear hV
              cases ng with
              | false =>
                have hDd : dl (X ++ (Y ++ ⟨#[48, 48, 48, 48]⟩).extract 0 4) = dl X ++ (dl Y ++ [48, 48, 48, 48]).take 4 := by rw [dl_app, Hexd.out]
                have hDl : (X ++ (Y ++ ⟨#[48, 48, 48, 48]⟩).extract 0 4).size ≤ 10000 := by (rw [ByteArray.size_append]; omega)
                have hp := pint (X ++ (Y ++ ⟨#[48, 48, 48, 48]⟩).extract 0 4) hDl V (Hs1.out.rd)
                obtain ⟨r, hr⟩ : ∃ r, parseIntB 64 (dl (X ++ (Y ++ ⟨#[48, 48, 48, 48]⟩).extract 0 4)) = r := ⟨_, rfl⟩
                rw [hr] at hp
                rw [hDd] at hr
                simp only [Bool.false_eq_true, if_false] at HN
                rw [hr] at HN
                clear hDd hr
                cases r
                case ok n =>
                  have Hp := hide hp
                  have HN := hide HN.out
                  clear hp
                  go_wp2_with fail
                  (with_reducible refine Hp.out.mono ?_)
                  rintro e V2 ⟨rfl, hb⟩
                  have h1 := Hs1.out.below hb
                  obtain ⟨a0, a1, a2, b0, b1, b2, f0, f1, hlt⟩ := h1.cells
                  have HB := hide h1.low
                  clear h1 hb Hp Hs1
                  go_wp2
                  refine bodyPost_ret (v := .tuple #[.agg #[.int .u8 2, .int .i64 n, .string ⟨#[]⟩], .int .i64 0]) (by simp [results, Tryz.results131, go_sem, *]) rfl ?_
                  rw [HN.out]
                  exact ⟨(((HB.out.setCell (by simp) _).setCell (by simp) _).setCell (by simp) _).setCell (by simp) _, rfl⟩
                all_goals
                  have Hp := hide hp
                  have HN := hide HN.out
                  clear hp
                  go_wp2_with fail
                  (with_reducible refine Hp.out.mono ?_)
                  rintro e V2 ⟨pz, pt, pN, rfl, hb⟩
                  have h1 := Hs1.out.below hb
                  obtain ⟨a0, a1, a2, b0, b1, b2, f0, f1, hlt⟩ := h1.cells
                  have HB := hide h1.low
                  clear h1 hb Hp Hs1
                  go_wp2
                  refine bodyPost_ret (v := .tuple #[.agg #[.int .u8 2, .int .i64 0, .string ⟨#[]⟩], .int .i64 9]) (by simp [results, Tryz.results131, go_sem, *]) rfl ?_
                  rw [HN.out]
                  exact ⟨((HB.out.setCell (by simp) _).setCell (by simp) _).setCell (by simp) _, _, _, _, rfl⟩
              | true =>
                have hDd : dl (⟨#[45]⟩ ++ (X ++ (Y ++ ⟨#[48, 48, 48, 48]⟩).extract 0 4)) = 45 :: (dl X ++ (dl Y ++ [48, 48, 48, 48]).take 4) := by rw [dl_app, dl_app, Hexd.out]; rfl
                have hDl : (⟨#[45]⟩ ++ (X ++ (Y ++ ⟨#[48, 48, 48, 48]⟩).extract 0 4)).size ≤ 10000 := by (have e0 : (⟨#[45]⟩ : ByteArray).size = 1 := rfl; rw [ByteArray.size_append, ByteArray.size_append, e0]; omega)
                have hp := pint (⟨#[45]⟩ ++ (X ++ (Y ++ ⟨#[48, 48, 48, 48]⟩).extract 0 4)) hDl V (Hs1.out.rd)
                obtain ⟨r, hr⟩ : ∃ r, parseIntB 64 (dl (⟨#[45]⟩ ++ (X ++ (Y ++ ⟨#[48, 48, 48, 48]⟩).extract 0 4))) = r := ⟨_, rfl⟩
                rw [hr] at hp
                rw [hDd] at hr
                simp only [if_true] at HN
                rw [hr] at HN
                clear hDd hr
                cases r
                case ok n =>
                  have Hp := hide hp
                  have HN := hide HN.out
                  clear hp
                  go_wp2_with fail
                  (with_reducible refine Hp.out.mono ?_)
                  rintro e V2 ⟨rfl, hb⟩
                  have h1 := Hs1.out.below hb
                  obtain ⟨a0, a1, a2, b0, b1, b2, f0, f1, hlt⟩ := h1.cells
                  have HB := hide h1.low
                  clear h1 hb Hp Hs1
                  go_wp2
                  refine bodyPost_ret (v := .tuple #[.agg #[.int .u8 2, .int .i64 n, .string ⟨#[]⟩], .int .i64 0]) (by simp [results, Tryz.results131, go_sem, *]) rfl ?_
                  rw [HN.out]
                  exact ⟨(((HB.out.setCell (by simp) _).setCell (by simp) _).setCell (by simp) _).setCell (by simp) _, rfl⟩
                all_goals
                  have Hp := hide hp
                  have HN := hide HN.out
                  clear hp
                  go_wp2_with fail
                  (with_reducible refine Hp.out.mono ?_)
                  rintro e V2 ⟨pz, pt, pN, rfl, hb⟩
                  have h1 := Hs1.out.below hb
                  obtain ⟨a0, a1, a2, b0, b1, b2, f0, f1, hlt⟩ := h1.cells
                  have HB := hide h1.low
                  clear h1 hb Hp Hs1
                  go_wp2
                  refine bodyPost_ret (v := .tuple #[.agg #[.int .u8 2, .int .i64 0, .string ⟨#[]⟩], .int .i64 9]) (by simp [results, Tryz.results131, go_sem, *]) rfl ?_
                  rw [HN.out]
                  exact ⟨((HB.out.setCell (by simp) _).setCell (by simp) _).setCell (by simp) _, _, _, _, rfl⟩
end Go.Proofs.YtkjndabbkfbkaaaGreatDoor
