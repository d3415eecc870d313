/- LexerJoins: the way that goes through. -/
import Derived.Test.YtlodonnnbjcejaaGreatDoorLxJ
import Derived.Maps.AppendAt
namespace Go.Proofs.YtlodonnnbjcejaaGreatDoor
open Go Go.RowKit Go.Lib Go.Sort Go.Shelf

theorem TkIs.kept {w w' : World} {v : Value} {ts : List Tkn} (h : TkIs w v ts) (hz : w.heap.size ≤ w'.heap.size) (he : ∀ g, v.ownBlock = some g → g < w.heap.size → w'.heap[g]? = w.heap[g]?) : TkIs w' v ts := by
  rcases h with h | ⟨b, c, rfl, h4, h2, h3⟩
  · exact .inl h
  · exact .inr ⟨b, c, rfl, h4, Nat.lt_of_lt_of_le h2 hz, fun j u hj => (World.cell?_of_block (w := w) (w' := w') (a := ⟨b, j, none⟩) (he b rfl h2)).trans (h3 j u hj)⟩
theorem TkIs.lt {w : World} {v : Value} {ts : List Tkn} (h : TkIs w v ts) : ∀ g, v.ownBlock = some g → g < w.heap.size := fun g e => by
  rcases h with ⟨rfl, _⟩ | ⟨b, c, rfl, h4, h2, h3⟩
  · cases e
  · injection e with e
    subst e
    exact h2
structure Jn (w wr : World) (v vb vc : Value) (pb : Nat) (xs bs cs : List Tkn) : Prop where
  below : Below w.heap.size w wr
  row : wr.ownsRow w.heap.size 37 7 v xs.length (tflat xs)
  tb : TkIs wr vb bs
  tc : TkIs wr vc cs
  sep : ∀ g, v.ownBlock = some g → vb.ownBlock ≠ some g ∧ vc.ownBlock ≠ some g
  pl : wr.heap[pb]? = some (.cells #[.int .i64 0, .int .i64 0] 32 (0, 0))
theorem Jn.next {w wr X : World} {v v' vb vc : Value} {pb : Nat} {xs bs cs : List Tkn} {t : Tkn} (h : Jn w wr v vb vc pb xs bs cs) (o1 o2 : Obj) (hg : ((wr.alloc o1).alloc o2).grownBy X v.ownBlock)
    (hr : X.ownsRow w.heap.size 37 7 v' (xs.length + 1) (tflat xs ++ tflat [t])) (ho : v'.ownBlock = v.ownBlock ∨ v'.ownBlock = some ((wr.alloc o1).alloc o2).heap.size) : Jn w X v' vb vc pb (xs ++ [t]) bs cs := by
  have hz : wr.heap.size ≤ X.heap.size := Nat.le_trans (by simp; omega) hg.size
  have key : ∀ g, g < wr.heap.size → v.ownBlock ≠ some g → X.heap[g]? = wr.heap[g]? := fun g hl hn =>
    (hg.block g (by simp; omega) (fun e => hn e.symm)).trans ((Below.heap_alloc _ _ _ (by simp; omega)).trans (Below.heap_alloc _ _ _ hl))
  refine ⟨((h.below.alloc h.below.size o1).alloc (by have := h.below.size; simp; omega) o2).grown hg (by have := h.below.size; simp; omega) (fun kk e => row_own h.row kk e), ?_, h.tb.kept hz fun g e hl => key g hl fun e2 => (h.sep g e2).1 e, h.tc.kept hz fun g e hl => key g hl fun e2 => (h.sep g e2).2 e, fun g e => ?_, ?_⟩
  · rw [List.length_append, tflat_append]
    exact hr
  · rcases ho with ho | ho
    · exact h.sep g (ho ▸ e)
    · rw [ho] at e
      injection e with e
      refine ⟨fun e2 => ?_, fun e2 => ?_⟩
      · have := h.tb.lt g e2
        simp at e
        omega
      · have := h.tc.lt g e2
        simp at e
        omega
  · exact (key pb (lt_of_heap h.pl) fun e => owns_not h.row h.pl (by decide) e).trans h.pl
set_option maxRecDepth 100000 in
set_option maxHeartbeats 8000000 in
theorem joins_ok (s t : ByteArray) (w : World) (hR : Rd w) (hs : s.size ≤ 1500) (ht : t.size ≤ 1500) {xs bs : List Tkn} (h1 : lexL (dl s) = .ok xs) (h : lexL (dl t) = .ok bs) :
    Calls Tryz.prog 4 #[.string s, .string t] w fun e w' => e = .returned (.bool true) ∧ Below w.heap.size w w' := by
  have hbl : ∀ b ∈ bs, 1 ≤ b.line ∧ b.line ≤ 1501 := fun b hb => by
    have ha := ((LX_rise _ (dl t) 1 1 (Nat.le_refl _) (by decide)).2 bs h).1 b hb
    have hc := (LX_top _ (dl t) 1 1 (Nat.le_refl _)).2 bs h b hb
    rw [dl_size] at hc
    refine ⟨?_, by omega⟩
    rcases ha with ha | ha <;> omega
  have hxl := (LX_bytes _ (dl s) 1 1 xs (Nat.le_refl _) h1).2
  have hbn := (LX_bytes _ (dl t) 1 1 bs (Nat.le_refl _) h).2
  rw [dl_size] at hxl hbn
  have hN1 : (dl s).count 10 ≤ s.size := by rw [← dl_size]; exact List.count_le_length
  obtain ⟨N, hN⟩ : ∃ N, (dl s).count 10 = N := ⟨_, rfl⟩
  have hj : lexL (dl (s ++ ⟨#[10]⟩ ++ t)) = .ok (xs ++ bs.map (Tkn.down (1 + (N : Int)))) := by
    rw [dl_app, dl_app, List.append_assoc]
    show lexL (dl s ++ 10 :: dl t) = _
    rw [lexL_join, h, h1, hN]
    rfl
  rw [hN] at hN1
  have hcn2 : ∀ V, Calls Tryz.prog 14 #[.string s, .string ⟨#[10]⟩] V fun e w' => e = .returned (.int .i64 (N : Int)) ∧ V = w' := fun V => by
    refine (Tryz.strings_Count_one s 10 V).mono ?_
    rintro e w' ⟨rfl, rfl⟩
    refine ⟨?_, rfl⟩
    rw [← hN]
    rfl
  have L1 := hide (lex_ok w (by omega) hR h1)
  have HR := hide hR
  have Hj := hide hj
  have Hcn := hide hcn2
  have Ht := hide h
  have Hbl := hide hbl
  have i1 : decide ((1500 : Int) < (s.size : Int)) = false := by simp; omega
  have i2 : decide ((1500 : Int) < (t.size : Int)) = false := by simp; omega
  have hz : (s ++ ⟨#[10]⟩ ++ t).size ≤ 65536 := by
    have e1 : (s ++ ⟨#[10]⟩ ++ t).size = s.size + 1 + t.size := by rw [ByteArray.size_append, ByteArray.size_append]; rfl
    omega
  have Hz := hide hz
  have hNb : (N : Int) ≤ 1500 := by omega
  clear hR hj h hz hcn2 hN h1 hbl
  go_enter Tryz.func4, Tryz.ntmps4
  go_wp2_with fail
  (with_reducible refine L1.out.mono ?_)
  rintro e V1 ⟨v1, rfl, hrow1, hb1⟩
  obtain ⟨a1, q1, rfl⟩ := row_form hrow1
  have hb1' := (Below.refl V1.heap.size V1).alloc (Nat.le_refl _) (.cells #[.int .i64 0, .int .i64 0] 32)
  obtain ⟨W1, hW1⟩ : ∃ W1, V1.alloc (.cells #[.int .i64 0, .int .i64 0] 32) = W1 := ⟨_, rfl⟩
  rw [hW1] at hb1'
  have hB1 : Below w.heap.size w W1 := hb1.trans (hb1'.mono hb1.size)
  have hr1 := owns_below hrow1 hb1'
  have hg1 : ∀ g, (Value.slice a1 xs.length q1).ownBlock = some g → g < W1.heap.size := fun g e => (TkIs.of_row hr1).lt g e
  have L2 := hide (lex_ok (s := t) W1 (by omega) (HR.out.below hB1) Ht.out)
  have HW1 := hide hW1
  have HB1 := hide hB1
  have Hr1 := hide hr1
  have Hg1 := hide hg1
  clear hW1 hB1 hb1 hb1' L1 hrow1 hr1 hg1
  go_upto_region 4 with fail
  rw [HW1.out]
  go_wp2_with fail
  (with_reducible refine L2.out.mono ?_)
  rintro e V2 ⟨v2, rfl, hrow2, hb2⟩
  obtain ⟨a2, q2, rfl⟩ := row_form hrow2
  have hb2' := (Below.refl V2.heap.size V2).alloc (Nat.le_refl _) (.cells #[.int .i64 0, .int .i64 0] 32)
  obtain ⟨W2, hW2⟩ : ∃ W2, V2.alloc (.cells #[.int .i64 0, .int .i64 0] 32) = W2 := ⟨_, rfl⟩
  rw [hW2] at hb2'
  have hB2 : Below w.heap.size w W2 := (HB1.out.trans (hb2.mono HB1.out.size)).trans (hb2'.mono (Nat.le_trans HB1.out.size hb2.size))
  have hr2 := owns_below (owns_below Hr1.out hb2) hb2'
  have hk2 := (TkIs.of_row hrow2).below hb2'
  have hg2 := row_own hrow2
  have hw12 : W1.heap.size ≤ W2.heap.size := Nat.le_trans hb2.size hb2'.size
  have L3 := hide (lex_ok (s := s ++ ⟨#[10]⟩ ++ t) W2 Hz.out (HR.out.below hB2) Hj.out)
  have HW2 := hide hW2
  have HB2 := hide hB2
  have Hr2 := hide hr2
  have Hk2 := hide hk2
  have Hg2 := hide hg2
  clear hW2 hB2 hb2 hb2' L2 HB1 Hr1 hr2 hk2 hrow2 hg2
  go_upto_region 5 with fail
  rw [HW2.out]
  go_wp2_with fail
  (with_reducible refine L3.out.mono ?_)
  rintro e V3 ⟨v3, rfl, hrow3, hb3⟩
  obtain ⟨a3, q3, rfl⟩ := row_form hrow3
  obtain ⟨n3, hn3⟩ : ∃ n3, (xs ++ bs.map (Tkn.down (1 + (N : Int)))).length = n3 := ⟨_, rfl⟩
  have hb3' := (Below.refl V3.heap.size V3).alloc (Nat.le_refl _) (.cells #[.int .i64 0, .int .i64 0] 32)
  have hpl := (MapKept.heap_alloc V3 (.cells #[.int .i64 0, .int .i64 0] 32)).1
  obtain ⟨W3, hW3⟩ : ∃ W3, V3.alloc (.cells #[.int .i64 0, .int .i64 0] 32) = W3 := ⟨_, rfl⟩
  rw [hW3] at hb3' hpl
  have hJ : Jn w W3 (.slice a1 xs.length q1) (.slice a2 bs.length q2) (.slice a3 n3 q3) V3.heap.size xs bs (xs ++ bs.map (Tkn.down (1 + (N : Int)))) := by
    have h3 := row_own hrow3
    rw [← hn3]
    refine ⟨(HB2.out.trans (hb3.mono HB2.out.size)).trans (hb3'.mono (Nat.le_trans HB2.out.size hb3.size)), owns_below (owns_below Hr2.out hb3) hb3', (Hk2.out.below hb3).below hb3', (TkIs.of_row hrow3).below hb3', fun g e => ⟨fun e2 => ?_, fun e2 => ?_⟩, hpl⟩
    · have := Hg1.out g e
      have := Hg2.out g e2
      omega
    · have := Hg1.out g e
      have := h3 g e2
      omega
  have Cn := hide (Hcn.out W3)
  have HW3 := hide hW3
  have HJ := hide hJ
  have Hn3 := hide hn3
  rw [hn3]
  clear hb3 hb3' hpl hJ hW3 L3 HB2 Hr2 Hk2 hrow3 hn3 hw12 Hg1 Hg2
  go_upto_region 6 with fail
  rw [HW3.out]
  go_wp2_with fail
  (with_reducible refine Cn.out.mono ?_)
  rintro e V ⟨rfl, rfl⟩
  obtain ⟨i0, hi0, hy0, hy1, hy2⟩ := tok_parts
  have Hi0 := hide hi0
  have Hy0 := hide hy0
  have Hy1 := hide hy1
  have Hy2 := hide hy2
  clear hi0 hy0 hy1 hy2 Cn
  go_wp2
  go_loopw [5, 93] (fun v5 v93 wr => ∃ (k : Nat) (aa : Option Addr) (cc : Nat), k ≤ bs.length ∧ v93 = .int .i64 k ∧ v5 = .slice aa (xs.length + k) cc ∧ Hid (Jn w wr (.slice aa (xs.length + k) cc) (.slice a2 bs.length q2) (.slice a3 n3 q3) V3.heap.size (xs ++ (bs.take k).map (Tkn.down (1 + (N : Int)))) bs (xs ++ bs.map (Tkn.down (1 + (N : Int)))))) (fun _ v93 _ => bs.length - (intOf v93).toNat)
  case atStart => exact ⟨0, a1, q1, Nat.zero_le _, rfl, rfl, hide (by simpa using HJ.out)⟩
  case round =>
    obtain ⟨k, aa, cc, hk, rfl, rfl, hq⟩ := hrel
    by_cases hlk : k < bs.length
    · obtain ⟨g, c, e, hgl, c0, c1, c2, c3, c4, c5, c6⟩ := hq.out.tb.at hlk
      injection e with ea _ ec
      subst ea ec
      have hb := Hbl.out bs[k] (List.getElem_mem hlk)
      have htk : (bs.take (k + 1)).map (Tkn.down (1 + (N : Int))) = (bs.take k).map (Tkn.down (1 + (N : Int))) ++ [Tkn.down (1 + (N : Int)) bs[k]] := by
        rw [List.take_succ_eq_append_getElem hlk, List.map_append]
        rfl
      have hlen : (xs ++ (bs.take k).map (Tkn.down (1 + (N : Int)))).length = xs.length + k := by simp; omega
      obtain ⟨tk, htk2⟩ : ∃ tk, bs[k] = tk := ⟨_, rfl⟩
      rw [htk2] at c0 c1 c2 c3 c4 c5 c6 hb htk
      obtain ⟨⟨wk, wt, u1, u2, u3⟩, ln, cl⟩ := tk
      simp only at c0 c1 c2 c3 c4 c5 c6 hb
      have hn2 : ((wr.alloc (.cells #[.int .u8 wk, .string ⟨wt.toArray⟩, .int .u8 u1, .int .i64 u2, .string ⟨u3.toArray⟩, .int .i64 (ln + (1 + (N : Int))), .int .i64 cl] 37)).alloc (.cells #[.int .u8 wk, .string ⟨wt.toArray⟩, .int .u8 u1, .int .i64 u2, .string ⟨u3.toArray⟩, .int .i64 (ln + (1 + (N : Int))), .int .i64 cl] 37)).heap[wr.heap.size + 1]? = some (.cells #[.int .u8 wk, .string ⟨wt.toArray⟩, .int .u8 u1, .int .i64 u2, .string ⟨u3.toArray⟩, .int .i64 (ln + (1 + (N : Int))), .int .i64 cl] 37 (0, 0)) := by
        have := heap_alloc0 (wr.alloc (.cells #[.int .u8 wk, .string ⟨wt.toArray⟩, .int .u8 u1, .int .i64 u2, .string ⟨u3.toArray⟩, .int .i64 (ln + (1 + (N : Int))), .int .i64 cl] 37)) (.cells #[.int .u8 wk, .string ⟨wt.toArray⟩, .int .u8 u1, .int .i64 u2, .string ⟨u3.toArray⟩, .int .i64 (ln + (1 + (N : Int))), .int .i64 cl] 37)
        rwa [World.size_alloc] at this
      have Hn2 := hide hn2
      have Htk := hide htk
      have Hlen := hide hlen
      have hlb : (xs ++ (bs.take k).map (Tkn.down (1 + (N : Int)))).length ≤ 3000 := by omega
      have hwz : w.heap.size ≤ wr.heap.size := hq.out.below.size
      obtain ⟨hb1, hb2⟩ := hb
      clear hn2 htk hlen htk2
      go_wp2_with (at_builtin; refine Hid.out ?_)
      refine hide ?_
      refine wpList_append_own_at _ rfl (.tmp 104) (.tmp 106) _ rfl w.heap.size 37 i0 (.agg tok0) 7 72 Tryz.underlying30 Hi0.out Hy0.out Hy1.out Hy2.out rfl (by decide) (.slice aa (xs.length + k) cc) _ _ rfl ((hq.out.row.alloc _).alloc _) ⟨wr.heap.size + 1, 0, none⟩ 1 1 [.int .u8 wk, .string ⟨wt.toArray⟩, .int .u8 u1, .int .i64 u2, .string ⟨u3.toArray⟩, .int .i64 (ln + (1 + (N : Int))), .int .i64 cl] rfl rfl (World.news_of_block (cs := #[.int .u8 wk, .string ⟨wt.toArray⟩, .int .u8 u1, .int .i64 u2, .string ⟨u3.toArray⟩, .int .i64 (ln + (1 + (N : Int))), .int .i64 cl]) Hn2.out) (by simp [Value.oneCell']) (by unfold maxLen; omega) (by omega) (by simp; omega) ?_
      intro v3' X ho3 hg3 _ hor
      have hN := Jn.next (t := Tkn.down (1 + (N : Int)) ⟨⟨wk, wt, u1, u2, u3⟩, ln, cl⟩) hq.out _ _ hg3 ho3 hor
      obtain ⟨na, nc, rfl⟩ := row_form ho3
      rw [Hlen.out] at hN ⊢
      rw [List.append_assoc, ← Htk.out] at hN
      have HN := hide hN
      clear ho3 hg3 hor hN
      go_wp2
      go_roundw
      case rel => exact ⟨k + 1, na, nc, by omega, by go_num, rfl, HN.out⟩
      case measure => simp [intOf]; omega
    · obtain rfl : k = bs.length := by omega
      have hJ := hq.out
      rw [List.take_length] at hJ
      have hla : (xs ++ bs.map (Tkn.down (1 + (N : Int)))).length = xs.length + bs.length := by simp
      have hS := same_yes _ _ _ _ false wr (TkIs.of_row hJ.row) hJ.tc rfl (fun _ => rfl) (by omega)
      have p0 : wr.cell? ⟨V3.heap.size, 0, none⟩ = some (.int .i64 0) := by simp [World.cell?, hJ.pl]
      have p1 : wr.cell? ⟨V3.heap.size, 1, none⟩ = some (.int .i64 0) := by simp [World.cell?, hJ.pl]
      have hK := fun V (hV : Below wr.heap.size wr V) => known06 V (HR.out.below (hJ.below.trans (hV.mono hJ.below.size)))
      have HS := hide hS
      have HK := hide hK
      have HB := hide hJ.below
      clear hJ hS hK hq hla
      go_wp2_with fail
      (with_reducible refine HS.out.mono ?_)
      rintro e V ⟨rfl, hb⟩
      have HB2 := hide (HB.out.trans (hb.mono HB.out.size))
      have HK2 := hide (HK.out V hb)
      clear hb HK
      go_wp2_with fail
      (with_reducible refine HK2.out.mono ?_)
      rintro e V' ⟨rfl, hb'⟩
      have HB3 := hide (HB2.out.trans (hb'.mono HB2.out.size))
      clear hb'
      go_wp2
      go_ret
      exact ⟨rfl, HB3.out⟩
set_option maxRecDepth 100000 in
theorem joins_walk (s t : ByteArray) (w : World) (hR : Rd w) (_ : s.size ≤ 9223372036854775807) (_ : t.size ≤ 9223372036854775807) :
    Calls Tryz.prog 4 #[.string s, .string t] w fun e w' => e = .returned (.bool true) ∧ Below w.heap.size w w' := by
  by_cases h1 : s.size ≤ 1500
  · by_cases h2 : t.size ≤ 1500
    · cases hl : lexL (dl s) with
      | error p =>
        obtain ⟨x, y, q⟩ := p
        exact joins_err1 s t w hR h1 h2 hl
      | ok xs =>
        cases hm : lexL (dl t) with
        | error p =>
          obtain ⟨x, y, q⟩ := p
          exact joins_err2 s t w hR h1 h2 hl hm
        | ok bs => exact joins_ok s t w hR h1 h2 hl hm
    · have i1 : decide ((1500 : Int) < (s.size : Int)) = false := by simp; omega
      have i2 : decide ((1500 : Int) < (t.size : Int)) = true := by simp; omega
      have K := hide (known06 w hR)
      clear h1 h2 hR
      go_enter Tryz.func4, Tryz.ntmps4
      go_wp2_with fail
      (with_reducible refine K.out.mono ?_)
      rintro e V ⟨rfl, hb⟩
      have HB := hide hb
      clear hb
      go_wp2
      go_ret
      exact ⟨rfl, HB.out⟩
  · have i1 : decide ((1500 : Int) < (s.size : Int)) = true := by simp; omega
    have K := hide (known06 w hR)
    clear h1 hR
    go_enter Tryz.func4, Tryz.ntmps4
    go_wp2_with fail
    (with_reducible refine K.out.mono ?_)
    rintro e V ⟨rfl, hb⟩
    have HB := hide hb
    clear hb
    go_wp2
    go_ret
    exact ⟨rfl, HB.out⟩
end Go.Proofs.YtlodonnnbjcejaaGreatDoor
