/- LexerBack: the walk. -/
import Derived.Test.YtlodonnnbjcejaaGreatDoorLxW
namespace Go.Proofs.YtlodonnnbjcejaaGreatDoor
open Go Go.RowKit Go.Lib Go.Sort Go.Shelf

theorem mem_le_sum : ∀ (l : List Nat) (x : Nat), x ∈ l → x ≤ l.sum
  | [], x, h => by simp at h
  | y :: l, x, h => by
    rw [List.sum_cons]
    rcases List.mem_cons.1 h with rfl | h
    · omega
    · have := mem_le_sum l x h
      omega
theorem spellW_len (w : Wd) : w.t.length ≤ (spellW w).length := by
  unfold spellW
  split
  · simp
  split
  · simp
    omega
  split
  · simp
  · exact Nat.le_refl _
theorem sx0 (w : World) : (Instr.index 44 (.agg #[.string ⟨#[32]⟩, .string ⟨#[10]⟩, .string ⟨#[32, 59, 32, 97, 32, 114, 101, 109, 97, 114, 107, 10]⟩]) (.int .i64 0)).run Tryz.prog w = .ok (.string ⟨#[32]⟩) w := by kernel_rfl
theorem sx1 (w : World) : (Instr.index 44 (.agg #[.string ⟨#[32]⟩, .string ⟨#[10]⟩, .string ⟨#[32, 59, 32, 97, 32, 114, 101, 109, 97, 114, 107, 10]⟩]) (.int .i64 1)).run Tryz.prog w = .ok (.string ⟨#[10]⟩) w := by kernel_rfl
theorem sx2 (w : World) : (Instr.index 44 (.agg #[.string ⟨#[32]⟩, .string ⟨#[10]⟩, .string ⟨#[32, 59, 32, 97, 32, 114, 101, 109, 97, 114, 107, 10]⟩]) (.int .i64 2)).run Tryz.prog w = .ok (.string ⟨#[32, 59, 32, 97, 32, 114, 101, 109, 97, 114, 107, 10]⟩) w := by kernel_rfl
def sepB (i : Nat) : ByteArray := match i with
  | 0 => ⟨#[32]⟩ | 1 => ⟨#[10]⟩ | _ => ⟨#[32, 59, 32, 97, 32, 114, 101, 109, 97, 114, 107, 10]⟩
theorem sepB_ok (i : Nat) : (dl (sepB i)).length ≤ 12 ∧ Passed (dl (sepB i)) := by
  match i with
  | 0 => exact ⟨by decide, passed_blank⟩
  | 1 => exact ⟨by decide, passed_line⟩
  | n + 2 => exact ⟨Nat.le_refl 12, passed_rem⟩
theorem strs_take {xs : List Tkn} {k : Nat} (h : k < xs.length) : xs.take (k + 1) = xs.take k ++ [xs[k]] := List.take_succ_eq_append_getElem h
set_option maxRecDepth 100000 in
set_option maxHeartbeats 8000000 in
theorem back_ok (s : ByteArray) (w : World) (hR : Rd w) (hs : s.size ≤ 2000) {xs : List Tkn} (h : lexL (dl s) = .ok xs) :
    Calls Tryz.prog 6 #[.string s] w fun e w' => e = .returned (.bool true) ∧ Below w.heap.size w w' := by
  have hby := LX_bytes _ (dl s) 1 1 xs (Nat.le_refl _) h
  rw [dl_size] at hby
  obtain ⟨hby1, hxl⟩ := hby
  have hri := ((LX_rise _ (dl s) 1 1 (Nat.le_refl _) (by decide)).2 xs h).2
  have htop := (LX_top _ (dl s) 1 1 (Nat.le_refl _)).2 xs h
  have hwas := LX_was _ (dl s) 1 1 xs (Nat.le_refl _) h
  have hsl : ∀ k (hk : k < xs.length), xs[k].w.t.length ≤ 100000 := fun k hk => by
    have h1 := mem_le_sum (xs.map fun t => (spellW t.w).length) (spellW xs[k].w).length (List.mem_map.2 ⟨xs[k], List.getElem_mem hk, rfl⟩)
    have h2 := spellW_len xs[k].w
    omega
  have hpw : ∀ k (hk : k + 1 < xs.length), plLt xs[k].line xs[k].col xs[k + 1].line xs[k + 1].col := fun k hk => List.pairwise_iff_getElem.1 hri k (k + 1) (by omega) hk (by omega)
  have hjn : ∀ (sep : List UInt8), sep.length ≤ 12 → Passed sep → (joinB sep (xs.map fun t => spellW t.w)).length ≤ 65536 ∧ ∃ ys, lexL (joinB sep (xs.map fun t => spellW t.w)) = .ok ys ∧ ys.map Tkn.w = xs.map Tkn.w := fun sep hsep hp => by
    have h1 := joinB_len sep 12 hsep (xs.map fun t => spellW t.w)
    rw [List.map_map, List.length_map] at h1
    refine ⟨?_, ?_⟩
    · have e : (xs.map (List.length ∘ fun t => spellW t.w)).sum = (xs.map fun t => (spellW t.w).length).sum := rfl
      rw [e] at h1
      omega
    · obtain ⟨ys, h2, h3⟩ := LX_back hp (xs.map Tkn.w) 1 1 (fun y hy => by
        obtain ⟨t, ht, rfl⟩ := List.mem_map.1 hy
        exact hwas t ht)
      refine ⟨ys, ?_, h3⟩
      rw [lexL_LX]
      rw [List.map_map] at h2
      exact h2
  have L1 := hide (lex_ok w (by omega) hR h)
  have HR := hide hR
  have Hsl := hide hsl
  have Hpw := hide hpw
  have Hjn := hide hjn
  have i1 : decide ((2000 : Int) < (s.size : Int)) = false := by simp; omega
  clear hR h hri htop hwas hsl hpw hjn hby1
  go_enter Tryz.func6, Tryz.ntmps6
  go_wp2_with fail
  (with_reducible refine L1.out.mono ?_)
  rintro e V1 ⟨v1, rfl, hrow1, hb1⟩
  obtain ⟨a1, q1, rfl⟩ := row_form hrow1
  have hb1' := (Below.refl V1.heap.size V1).alloc (Nat.le_refl _) (.cells #[.int .i64 0, .int .i64 0] 32)
  obtain ⟨W1, hW1⟩ : ∃ W1, V1.alloc (.cells #[.int .i64 0, .int .i64 0] 32) = W1 := ⟨_, rfl⟩
  rw [hW1] at hb1'
  have hB : Bk w W1 (.slice none 0 0) (.slice a1 xs.length q1) xs [] := ⟨hb1.trans (hb1'.mono hb1.size), by simpa [strs] using World.ownsRow_nil W1 w.heap.size 9 1, owns_below hrow1 hb1'⟩
  have HW1 := hide hW1
  have HB := hide hB
  obtain ⟨i0, hi0, hy0, hy1, hy2⟩ := str_parts
  have Hi0 := hide hi0
  have Hy0 := hide hy0
  have Hy1 := hide hy1
  have Hy2 := hide hy2
  clear hW1 hB hb1 hb1' hrow1 L1 hi0 hy0 hy1 hy2
  go_upto_region 4 with fail
  rw [HW1.out]
  go_wp2
  go_loopw [6, 44] (fun v6 v44 wr => ∃ (k : Nat) (aa : Option Addr) (cc : Nat), k ≤ xs.length ∧ v44 = .int .i64 k ∧ v6 = .slice aa k cc ∧ Hid (Bk w wr (.slice aa k cc) (.slice a1 xs.length q1) xs (xs.take k))) (fun _ v44 _ => xs.length - (intOf v44).toNat)
  case atStart => exact ⟨0, none, 0, Nat.zero_le _, rfl, rfl, HB.out⟩
  case round =>
    obtain ⟨k, aa, cc, hk, rfl, rfl, hq⟩ := hrel
    by_cases hlk : k < xs.length
    · have hq2 := hq.out
      obtain ⟨g, c, e, hgl, c0, c1, c2, c3, c4, c5, c6⟩ := (TkIs.of_row hq2.rx).at hlk
      injection e with ea _ ec
      subst ea ec
      have htk := strs_take hlk
      have hlen : (xs.take k).length = k := by rw [List.length_take]; omega
      have hsl := Hsl.out k hlk
      have hprev : 0 < k → ∃ lp cp : Int, (∀ X, TkIs X (.slice (some ⟨g, 0, none⟩) xs.length q1) xs → X.cell? ⟨g, (k - 1) * 7 + 5, none⟩ = some (.int .i64 lp) ∧ X.cell? ⟨g, (k - 1) * 7 + 6, none⟩ = some (.int .i64 cp)) ∧ (lp < xs[k].line ∨ lp = xs[k].line ∧ cp < xs[k].col) := fun h0 => by
        obtain ⟨k', rfl⟩ : ∃ k', k = k' + 1 := ⟨k - 1, by omega⟩
        have h1 := Hpw.out k' hlk
        refine ⟨xs[k'].line, xs[k'].col, fun X hX => ?_, h1⟩
        obtain ⟨g', c', e', _, _, _, _, _, _, d5, d6⟩ := hX.at (show k' < xs.length by omega)
        cases e'
        rw [Nat.add_sub_cancel]
        exact ⟨d5, d6⟩
      obtain ⟨tk, htk2⟩ : ∃ tk, xs[k] = tk := ⟨_, rfl⟩
      rw [htk2] at c0 c1 c2 c3 c4 c5 c6 hsl htk
      simp only [htk2] at hprev
      obtain ⟨⟨wk, wt, u1, u2, u3⟩, ln, cl⟩ := tk
      simp only at c0 c1 c2 c3 c4 c5 c6 hsl hprev
      have hT1 := TokAt.newc wr wk ⟨wt.toArray⟩ u1 u2 ⟨u3.toArray⟩ ln cl
      have hn1 := heap_alloc0 wr (.cells #[.int .u8 wk, .string ⟨wt.toArray⟩, .int .u8 u1, .int .i64 u2, .string ⟨u3.toArray⟩, .int .i64 ln, .int .i64 cl] 37)
      obtain ⟨W2, hW2⟩ : ∃ W2, wr.alloc (.cells #[.int .u8 wk, .string ⟨wt.toArray⟩, .int .u8 u1, .int .i64 u2, .string ⟨u3.toArray⟩, .int .i64 ln, .int .i64 cl] 37) = W2 := ⟨_, rfl⟩
      have hb2 : Below wr.heap.size wr W2 := by rw [← hW2]; exact (Below.refl _ wr).alloc (Nat.le_refl _) _
      have hz2 : wr.heap.size < W2.heap.size := by rw [← hW2]; simp
      rw [hW2] at hT1 hn1
      have hqW := hq2.lower hb2
      obtain ⟨d0, d1, d2, d3, d4, d5, d6, fz⟩ := hT1
      have Sp := hide (spell_any wk wt u1 u2 u3 ln cl W2 hsl)
      have HqW := hide hqW
      have HW2 := hide hW2
      have Hn1 := hide hn1
      have Htk := hide htk
      have Hlen := hide hlen
      have Hprev := hide hprev
      clear hn1 hW2 hb2 hqW hq2 hq htk hlen hprev htk2 hsl
      go_upto_region 10 with fail
      rw [HW2.out]
      go_wp2_with fail
      (with_reducible refine Sp.out.mono ?_)
      rintro e V ⟨rfl, hb⟩
      have hqV := HqW.out.lower hb
      have hnV := (hb.block _ hz2).trans Hn1.out
      have hzV : wr.heap.size < V.heap.size := lt_of_heap hnV
      obtain ⟨S, hS⟩ : ∃ S : ByteArray, (⟨(spellW ⟨wk, wt, (u1, u2, u3)⟩).toArray⟩ : ByteArray) = S := ⟨_, rfl⟩
      rw [hS]
      have HqV := hide hqV
      have HnV := hide hnV
      have HS := hide hS
      have hkl : (xs.take k).length ≤ 2000 := by rw [Hlen.out]; omega
      have hwV : w.heap.size ≤ V.heap.size := hqV.below.size
      clear hb hqV hnV hS Sp HqW Hn1 c0 c1 c2 c3 c4 c5 c6 d0 d1 d2 d3 d4 d5 d6 fz
      go_wp2_with (at_builtin; refine Hid.out ?_)
      refine hide ?_
      refine wpList_append_own _ rfl (.tmp 49) (.tmp 52) _ rfl w.heap.size 9 i0 (.string ⟨#[]⟩) 1 16 Tryz.underlying42 Hi0.out Hy0.out Hy1.out Hy2.out rfl (by decide) (.slice aa k cc) _ _ rfl (HqV.out.row.alloc _) ⟨V.heap.size, 0, none⟩ 1 1 [.string S] rfl rfl (World.news_of_block (cs := #[.string S]) (heap_alloc0 V _)) (by simp [Value.oneCell']) (by unfold maxLen; omega) (by omega) (by simp; omega) ?_
      intro v3' X ho3 hg3 _
      have hN := Bk.next (t := ⟨⟨wk, wt, (u1, u2, u3)⟩, ln, cl⟩) HqV.out _ hg3 (by rw [show strB ⟨⟨wk, wt, (u1, u2, u3)⟩, ln, cl⟩ = S from HS.out]; exact ho3)
      have hnX : X.heap[wr.heap.size]? = some (.cells #[.int .u8 wk, .string ⟨wt.toArray⟩, .int .u8 u1, .int .i64 u2, .string ⟨u3.toArray⟩, .int .i64 ln, .int .i64 cl] 37 (0, 0)) :=
        (hg3.block _ (by simp; omega) (fun e2 => owns_not HqV.out.row HnV.out (by decide) e2.symm)).trans ((Below.heap_alloc _ _ _ hzV).trans HnV.out)
      rw [← Htk.out] at hN
      obtain ⟨na, nc, rfl⟩ := row_form ho3
      rw [Hlen.out] at hN ⊢
      have x5 : X.cell? ⟨wr.heap.size, 5, none⟩ = some (.int .i64 ln) := by simp [World.cell?, hnX]
      have x6 : X.cell? ⟨wr.heap.size, 6, none⟩ = some (.int .i64 cl) := by simp [World.cell?, hnX]
      have hTX := TkIs.of_row hN.rx
      have HN := hide hN
      have HN2 : Hid (∀ n : Nat, Bk w (X.drewN n) (.slice na (k + 1) nc) (.slice (some ⟨g, 0, none⟩) xs.length q1) xs (xs.take (k + 1))) := hide fun n => HN.out.lower ⟨rfl, rfl, rfl, Nat.le_refl _, fun _ _ => rfl⟩
      clear ho3 hg3 hN hnX
      by_cases h0 : 0 < k
      · obtain ⟨lp, cp, hpc, hor⟩ := Hprev.out h0
        obtain ⟨y5, y6⟩ := hpc X hTX
        have k0 : decide ((0 : Int) < (k : Int)) = true := by simpa using h0
        have k0' : decide (0 < k) = true := by simpa using h0
        have k1 : (0 : Int) ≤ (k : Int) - 1 := by omega
        have k2 : (k : Int) - 1 < (xs.length : Int) := by omega
        have k3 : ((k : Int) - 1).toNat = k - 1 := by omega
        have k4 : decide (ln < lp) = false := decide_eq_false (by rcases hor with h | h <;> omega)
        by_cases he : ln = lp
        · have k5 : (ln == lp) = true := by simp [he]
          have k6 : decide (cl ≤ cp) = false := decide_eq_false (by rcases hor with h | h <;> omega)
          clear hpc hor hTX Hprev
          go_wp2_with fail
          go_quiet (fail)
          go_wp2
          go_roundw
          case rel => exact ⟨k + 1, na, nc, by omega, by go_num, rfl, HN2.out _⟩
          case measure => simp [intOf]; omega
        · have k5 : (ln == lp) = false := beq_eq_false_iff_ne.2 he
          clear hpc hor hTX Hprev he
          go_wp2_with fail
          go_quiet (fail)
          go_wp2
          go_roundw
          case rel => exact ⟨k + 1, na, nc, by omega, by go_num, rfl, HN2.out _⟩
          case measure => simp [intOf]; omega
      · obtain rfl : k = 0 := by omega
        clear hTX Hprev h0
        go_wp2_with fail
        go_quiet (fail)
        go_wp2
        go_roundw
        case rel => exact ⟨0 + 1, na, nc, by omega, by go_num, rfl, HN2.out _⟩
        case measure => simp [intOf]; omega
    · obtain rfl : k = xs.length := by omega
      have hq2 := hq.out
      rw [List.take_length] at hq2
      have HQ := hide hq2
      clear hq hq2 HB
      have ix : ∀ (i : Nat) (w : World), i < 3 → (Instr.index 44 (.agg #[.string ⟨#[32]⟩, .string ⟨#[10]⟩, .string ⟨#[32, 59, 32, 97, 32, 114, 101, 109, 97, 114, 107, 10]⟩]) (.int .i64 (i : Nat))).run Tryz.prog w = .ok (.string (sepB i)) w := fun i w hi => by
        match i, hi with
        | 0, _ => exact sx0 w
        | 1, _ => exact sx1 w
        | 2, _ => exact sx2 w
      have Hix := hide ix
      clear ix Hsl Hpw Hi0 Hy0 Hy1 Hy2
      go_wp2
      go_loopw [97] (fun v97 wx => ∃ m : Nat, m ≤ 3 ∧ v97 = .int .i64 m ∧ Hid (Bk w wx (.slice aa xs.length cc) (.slice a1 xs.length q1) xs xs)) (fun v97 _ => 3 - (intOf v97).toNat)
      case atStart => exact ⟨0, by omega, rfl, HQ.out⟩
      case round =>
        clear HQ
        obtain ⟨m, hm, rfl, hq⟩ := hrel
        by_cases hm3 : m < 3
        · have k1 : (m : Int) < 3 := by omega
          have hix := Hix.out m wr hm3
          obtain ⟨hsp1, hsp2⟩ := sepB_ok m
          obtain ⟨hjl, ys, hys, hmap⟩ := Hjn.out _ hsp1 hsp2
          have hJ := join_any hq.out.row (sepB m) (by omega) hjl
          obtain ⟨z, hz⟩ : ∃ z, sepB m = z := ⟨_, rfl⟩
          rw [hz] at hix hJ hys hjl
          obtain ⟨J, hJe⟩ : ∃ J : ByteArray, (⟨(joinB (dl z) (xs.map fun t => spellW t.w)).toArray⟩ : ByteArray) = J := ⟨_, rfl⟩
          have hJd : dl J = joinB (dl z) (xs.map fun t => spellW t.w) := by rw [← hJe]
          have hJs : J.size ≤ 65536 := by rw [← dl_size, hJd]; exact hjl
          rw [hJe] at hJ
          rw [← hJd] at hys
          have HJ := hide hJ
          have Hys := hide hys
          have Hmap := hide hmap
          clear hJ hys hmap hz hJe hJd hsp1 hsp2 hjl
          go_wp2_with fail
          (with_reducible refine HJ.out.mono ?_)
          rintro e V ⟨rfl, hb⟩
          have hqV := hq.out.lower hb
          have L2 := hide (lex_ok V hJs (HR.out.below hqV.below) Hys.out)
          have HqV := hide hqV
          clear hb hqV HJ
          go_wp2_with fail
          (with_reducible refine L2.out.mono ?_)
          rintro e V2 ⟨v2, rfl, hrow2, hb2⟩
          obtain ⟨a2, q2, rfl⟩ := row_form hrow2
          have hb2' := (Below.refl V2.heap.size V2).alloc (Nat.le_refl _) (.cells #[.int .i64 0, .int .i64 0] 32)
          have hq2 := (HqV.out.lower hb2).lower hb2'
          have hS := same_yes _ _ _ _ true _ (TkIs.of_row hq2.rx) ((TkIs.of_row hrow2).below hb2') Hmap.out.symm (fun e => by cases e) (by omega)
          have HS := hide hS
          have Hq2 := hide hq2
          clear hb2 hb2' hq2 hS hrow2 L2 HqV
          go_wp2_with fail
          (with_reducible refine HS.out.mono ?_)
          rintro e V3 ⟨rfl, hb3⟩
          have Hq3 := hide (Hq2.out.lower hb3)
          clear hb3 HS Hq2
          go_wp2
          go_roundw
          case rel => exact ⟨m + 1, by omega, by go_num, Hq3.out⟩
          case measure => simp [intOf]; omega
        · obtain rfl : m = 3 := by omega
          have K := hide (known06 wr (HR.out.below hq.out.below))
          go_wp2_with fail
          (with_reducible refine K.out.mono ?_)
          rintro e V ⟨rfl, hb⟩
          have HB := hide (hq.out.below.trans (hb.mono hq.out.below.size))
          clear hb
          go_wp2
          go_ret
          exact ⟨rfl, HB.out⟩
set_option maxRecDepth 100000 in
theorem back_walk (s : ByteArray) (w : World) (hR : Rd w) : Calls Tryz.prog 6 #[.string s] w fun e w' => e = .returned (.bool true) ∧ Below w.heap.size w w' := by
  by_cases h1 : s.size ≤ 2000
  · cases hl : lexL (dl s) with
    | error p =>
      obtain ⟨x, y, q⟩ := p
      have hq := lex_errq hl
      obtain ⟨hx, hy, _⟩ := (LX_rise _ (dl s) 1 1 (Nat.le_refl _) (by decide)).1 x y q hl
      have L1 := hide (lex_er w (by omega) hR hl)
      have HR := hide hR
      have i1 : decide ((2000 : Int) < (s.size : Int)) = false := by simp; omega
      have i2 : decide ((0 : Int) < x) = true := decide_eq_true (by omega)
      have i3 : decide ((0 : Int) < y) = true := decide_eq_true (by omega)
      clear hR h1 hl
      go_enter Tryz.func6, Tryz.ntmps6
      go_wp2_with fail
      (with_reducible refine L1.out.mono ?_)
      rintro e V1 ⟨rfl, hb1⟩
      obtain ⟨p0, p1⟩ := new2 V1 x y
      have hB1 := hb1.alloc hb1.size (.cells #[.int .i64 x, .int .i64 y] 32)
      obtain ⟨W1, hW1⟩ : ∃ W1, V1.alloc (.cells #[.int .i64 x, .int .i64 y] 32) = W1 := ⟨_, rfl⟩
      rw [hW1] at p0 p1 hB1
      have HB1 := hide hB1
      have HW1 := hide hW1
      have K := hide (known06 W1 (HR.out.below hB1))
      clear hb1 L1 hB1 hW1
      go_upto_region 4 with fail
      rw [HW1.out]
      rcases hq with rfl | rfl
      all_goals
        go_wp2_with fail
        (with_reducible refine K.out.mono ?_)
        rintro e V ⟨rfl, hb⟩
        have HB := hide (HB1.out.trans (hb.mono HB1.out.size))
        clear hb
        go_wp2
        go_ret
        exact ⟨rfl, HB.out⟩
    | ok xs => exact back_ok s w hR h1 hl
  · have i1 : decide ((2000 : Int) < (s.size : Int)) = true := by simp; omega
    have K := hide (known06 w hR)
    clear h1 hR
    go_enter Tryz.func6, Tryz.ntmps6
    go_wp2_with fail
    (with_reducible refine K.out.mono ?_)
    rintro e V ⟨rfl, hb⟩
    have HB := hide hb
    clear hb
    go_wp2
    go_ret
    exact ⟨rfl, HB.out⟩
end Go.Proofs.YtlodonnnbjcejaaGreatDoor
