/- The walk of TruthOrder. -/
import Derived.Test.YtmcajoccfbebiaaTrHeldW
import Derived.Test.YtmcajoccfbebiaaOpsRow
import Derived.Test.YtmcajoccfbebiaaRef29
import Derived.Deep.AppendLies
namespace Go.Proofs.Ytmcajoccfbebiaa
open Go Go.RowKit Go.MapKept Go.Sort

theorem index_two0 (x y : Value) (w : World) : (Instr.index 63 (.agg #[x, y]) (.int .i64 0)).run Try.prog w = .ok x w := by kernel_rfl
theorem index_two1 (x y : Value) (w : World) : (Instr.index 63 (.agg #[x, y]) (.int .i64 1)).run Try.prog w = .ok y w := by kernel_rfl

set_option maxRecDepth 100000 in
set_option maxHeartbeats 16000000 in
theorem order29_walk (vl : Value) (l : List OpD) (id : Int) (w : World) (hl : OpsD w vl l) :
    Calls Try.prog 7 #[vl, .int .i64 id] w fun e w' => e = .returned (.bool true) ∧ Below w.heap.size w w' := by
  obtain ⟨la, lc, rfl⟩ := hl.form
  have Hg := hide (great_any _ l w hl)
  have Hl := hide hl
  clear hl
  cases hg : greatO l with
  | true =>
    rw [hg] at Hg
    clear hg
    go_enter Try.func7, Try.ntmps7
    go_wp2_with fail
    (with_reducible refine Hg.out.mono ?_)
    rintro e V ⟨rfl, rfl⟩
    go_wp2_with (go_at_call 25; refine (known29_walk _).mono ?_; rintro e w' ⟨rfl, hk⟩)
    go_ret
    exact ⟨rfl, hk⟩
  | false =>
    rw [hg] at Hg
    obtain ⟨hl60, hn20⟩ := greatO_false hg
    have Hn20 := hide hn20
    have Hn20r : Hid (∀ d ∈ l.reverse, d.j.n ≤ 20) := hide fun d hd => hn20 d (List.mem_reverse.1 hd)
    have Hn20t : Hid (∀ d ∈ l ++ l, d.j.n ≤ 20) := hide fun d hd => hn20 d (by simpa using hd)
    obtain ⟨i0, hi, hz0, hz1, hz2⟩ := oinfo_parts
    have Hi := hide hi
    have Hz0 := hide hz0
    have Hz1 := hide hz1
    have Hz2 := hide hz2
    clear hi hz0 hz1 hz2 hg hn20
    go_enter Try.func7, Try.ntmps7
    go_wp2_with fail
    (with_reducible refine Hg.out.mono ?_)
    rintro e V ⟨rfl, rfl⟩
    clear Hg
    go_wp2_with fail
    go_loopw [5, 17] (fun vt vi wr => ∃ (k : Nat) (ta : Option Addr) (tc : Nat), k ≤ l.length ∧ vi = .int .i64 k ∧ vt = .slice ta k tc ∧ Hid (wr.ownsRow w.heap.size 55 4 (.slice ta k tc) k (oflat (l.reverse.take k)) ∧ Below w.heap.size w wr)) (fun _ vi _ => l.length - (intOf vi).toNat)
    case atStart => exact ⟨0, none, 0, Nat.zero_le _, rfl, rfl, World.ownsRow_nil _ _ _ _, Below.refl _ _⟩
    case round =>
      obtain ⟨k, ta, tc, hk, rfl, rfl, hq⟩ := hrel
      by_cases hlk : k < l.length
      · have hjl : l.length - 1 - k < l.length := by omega
        obtain ⟨ob, off, cap, e, c0, c1, c2, c3, _, _⟩ := (Hl.out.below hq.out.2).at hjl
        injection e with e1 e2 e3
        subst e1 e3
        clear e2
        have hrev : l.reverse.take (k + 1) = l.reverse.take k ++ [l[l.length - 1 - k]] := by
          rw [List.take_succ_eq_append_getElem (by simpa using hlk)]
          congr 2
          rw [List.getElem_reverse]
        obtain ⟨D, hD⟩ : ∃ D, l[l.length - 1 - k] = D := ⟨_, rfl⟩
        rw [hD] at c0 c1 c2 c3 hrev
        obtain ⟨kd, od, ⟨jr, ja, jn, jc, jt⟩⟩ := D
        simp only at c0 c1 c2 c3
        have Hrev := hide hrev
        have hwz : w.heap.size ≤ wr.heap.size := hq.out.2.size
        have Hown4 := hide (hq.out.1.alloc (Obj.cells #[.int .i64 kd, .int .i64 od, .int .i64 jr, .slice ja jn jc] 55))
        have Hnews := hide (World.news_of_block (cs := #[.int .i64 kd, .int .i64 od, .int .i64 jr, .slice ja jn jc]) (t := 55) (fr := (0, 0)) (heap_alloc_new wr (Obj.cells #[.int .i64 kd, .int .i64 od, .int .i64 jr, .slice ja jn jc] 55)))
        clear hD hrev
        go_wp2_with (at_builtin; refine wpList_append_own _ rfl _ _ _ rfl w.heap.size 55 i0 (.agg #[.int .i64 0, .int .i64 0, .int .i64 0, .slice none 0 0]) 4 48 Try.underlying48 Hi.out Hz0.out Hz1.out Hz2.out rfl (by decide) (.slice ta k tc) k (oflat (l.reverse.take k)) rfl Hown4.out ⟨wr.heap.size, 0, none⟩ 1 1 [.int .i64 kd, .int .i64 od, .int .i64 jr, .slice ja jn jc] rfl rfl Hnews.out (by simp [Value.oneCell']) (by unfold maxLen; omega) (by omega) (by simp; omega) ?_; intro v5 w5 hown5 hgrow _; obtain ⟨va, vc, rfl⟩ := row_form hown5)
        have hrow0 := row_own hq.out.1
        have hb5 : Below w.heap.size w w5 := (hq.out.2.alloc hwz _).grown hgrow (by simp; omega) (fun k hk => hrow0 k hk)
        have hown6 : w5.ownsRow w.heap.size 55 4 (.slice va (k + 1) vc) (k + 1) (oflat (l.reverse.take (k + 1))) := by rw [Hrev.out, oflat_append]; exact hown5
        have HF := hide (And.intro hown6 hb5)
        clear hown5 hgrow hrow0 Hown4 Hnews Hrev hown6 hb5 c0 c1 c2 c3 hq
        go_wp2
        go_roundw
        case rel => exact ⟨k + 1, va, vc, by omega, by go_num, rfl, HF.out⟩
        case measure => simp [intOf]; omega
      · obtain rfl : k = l.length := by omega
        have hrt : l.reverse.take l.length = l.reverse := by rw [← List.length_reverse, List.take_length]
        have hrow := hq.out.1
        have hbw := hq.out.2
        rw [hrt] at hrow
        have hrl : l.reverse.length = l.length := List.length_reverse
        have htd : OpsD wr (.slice ta l.length tc) l.reverse := OpsD.of_row (B := w.heap.size) (by omega) (by rw [hrl]; exact hrow) (fun d hd => (Hl.out.ok d (List.mem_reverse.1 hd)).below hbw)
        have Htd := hide htd
        have HA0 := hide (held29_any _ l wr (Hl.out.below hbw) Hn20.out (by omega))
        have Hbw := hide hbw
        clear hq hrow hbw htd hrt
        go_wp2_with fail
        (with_reducible refine HA0.out.mono ?_)
        rintro e W1 ⟨b1, m1, M1, rfl, hB1, hS1, hb1, _, _⟩
        have HB0 := hide (held29_any _ l.reverse W1 (Htd.out.below hb1) Hn20r.out (by omega))
        have HB1 := hide hB1
        have HS1 := hide hS1
        have Hb1 := hide (Hbw.out.trans (hb1.mono Hbw.out.size))
        clear hB1 hS1 hb1 HA0 Htd
        go_wp2_with fail
        (with_reducible refine HB0.out.mono ?_)
        rintro e W2 ⟨b2, m2, M2, rfl, hB2, hS2, hb2, _, _⟩
        have hS2' : Says M2 l := hS2.congr fun d => List.mem_reverse
        have HB2 := hide hB2
        have HS2 := hide hS2'
        have HB1 := hide (HB1.out.below hb2)
        have Hb2 := hide (Hb1.out.trans (hb2.mono Hb1.out.size))
        clear hB2 hS2 hS2' hb2 HB0
        have hown0 : (W2.alloc (Obj.cells #[] 55)).ownsRow W2.heap.size 55 4 (.slice (some ⟨W2.heap.size, 0, none⟩) 0 0) 0 [] := ⟨rfl, .inr ⟨W2.heap.size, 0, #[], rfl, Nat.le_refl _, (MapKept.heap_alloc W2 _).1, Nat.le_refl _, Nat.zero_le _, rfl, rfl⟩⟩
        have hb0 : Below W2.heap.size W2 (W2.alloc (Obj.cells #[] 55)) := ((Only.refl [] W2).alloc _).below
        have Hs0 := hide ((Hl.out.below (Hb2.out.trans (hb0.mono Hb2.out.size))).src)
        have Hown0 := hide hown0
        have Hb0 := hide hb0
        have hz2 : W2.heap.size ≤ (W2.alloc (Obj.cells #[] 55)).heap.size := by simp
        have Hz2' := hide hz2
        obtain ⟨W20, hW20⟩ : ∃ W20, W2.alloc (Obj.cells #[] 55) = W20 := ⟨_, rfl⟩
        rw [hW20] at Hown0 Hb0 Hs0 Hz2'
        have HW20 := hide hW20
        clear hown0 hb0 hz2 hW20
        go_wp2_with (first
          | (at_builtin; rw [HW20.out]; refine wpList_append_any _ rfl (.tmp 36) (.tmp 37) _ rfl W2.heap.size 55 i0 (.agg #[.int .i64 0, .int .i64 0, .int .i64 0, .slice none 0 0]) 4 48 Try.underlying48 Hi.out Hz0.out Hz1.out Hz2.out rfl (by decide) (.slice (some ⟨W2.heap.size, 0, none⟩) 0 0) 0 [] rfl Hown0.out (.slice la l.length lc) l.length (oflat l) rfl Hs0.out (oflat_one l) (by unfold maxLen; omega) (by omega) Hz2'.out ?_; intro v1 X1 ho1 hg1; simp only [Nat.zero_add, List.nil_append] at ho1; obtain ⟨xa, xc, rfl⟩ := row_form ho1; have Hb3 := hide (Hb0.out.grown hg1 Hz2'.out (fun k e => by simp only [Value.ownBlock, Option.some.injEq] at e; omega)); have Ho1 := hide ho1; have Hs1 := hide ((Hl.out.below (Hb2.out.trans (Hb3.out.mono Hb2.out.size))).src); clear ho1 hg1)
          | (at_builtin; refine wpList_append_any _ rfl (.tmp 38) (.tmp 39) _ rfl W2.heap.size 55 i0 (.agg #[.int .i64 0, .int .i64 0, .int .i64 0, .slice none 0 0]) 4 48 Try.underlying48 Hi.out Hz0.out Hz1.out Hz2.out rfl (by decide) (.slice xa l.length xc) l.length (oflat l) rfl Ho1.out (.slice la l.length lc) l.length (oflat l) rfl Hs1.out (oflat_one l) (by unfold maxLen; omega) (by omega) Hb3.out.size ?_; intro v2 X2 ho2 hg2; rw [← oflat_append] at ho2; obtain ⟨ya, yc, rfl⟩ := row_form ho2; have Hb4 := hide (Hb3.out.grown hg2 Hb3.out.size (fun k e => row_own Ho1.out k e)); have Ho2 := hide ho2; clear ho2 hg2))
        have hll : (l ++ l).length = l.length + l.length := List.length_append
        have htd : OpsD X2 (.slice ya (l.length + l.length) yc) (l ++ l) := OpsD.of_row (B := W2.heap.size) (by omega) (by rw [hll]; exact Ho2.out) (fun d hd => (Hl.out.ok d (by simpa using hd)).below (Hb2.out.trans (Hb4.out.mono Hb2.out.size)))
        have HC0 := hide (held29_any _ (l ++ l) X2 htd Hn20t.out (by omega))
        clear htd
        (with_reducible refine HC0.out.mono ?_)
        rintro e W3 ⟨b3, m3, M3, rfl, hB3, hS3, hb3, _, _⟩
        have hb23 : Below W2.heap.size W2 W3 := Hb4.out.trans (hb3.mono Hb4.out.size)
        have hS3' : Says M3 l := hS3.congr fun d => by simp
        have H3 := hide fun V (hV : Below W3.heap.size W3 V) => hB3.below hV
        have H2 := hide fun V (hV : Below W3.heap.size W3 V) => (HB2.out.below hb23).below hV
        have H1 := hide fun V (hV : Below W3.heap.size W3 V) => (HB1.out.below hb23).below hV
        have HS3 := hide hS3'
        have Hb3 := hide (Hb2.out.trans (hb23.mono Hb2.out.size))
        clear hB3 hS3 hS3' hb3 hb23 HB1 HB2 HC0 Ho2 Hb4 Ho1 Hb0 Hs0 Hs1 Hown0 Hb1 Hbw HW20 Hz2'
        go_wp2
        go_loopw [11, 55] (fun _ vi wr => ∃ k : Nat, k ≤ 2 ∧ vi = .int .i64 k ∧ Hid (Below W3.heap.size W3 wr)) (fun _ vi _ => 2 - (intOf vi).toNat)
        case atStart => exact ⟨0, by omega, rfl, Below.refl _ _⟩
        case round =>
          obtain ⟨k, hk, rfl, hq⟩ := hrel
          obtain rfl | rfl | rfl : k = 0 ∨ k = 1 ∨ k = 2 := by omega
          · have hix := index_two0 (.pointer (some ⟨b2, 0, none⟩)) (.pointer (some ⟨b3, 0, none⟩)) wr
            have hie : idsS M1 = idsS M2 := HS1.out.ids_eq HS2.out
            have hpe : (getD M1 id).plain = (getD M2 id).plain := HS1.out.plain_eq HS2.out id
            have Hheld := hide (fun x => HS1.out.held_eq HS2.out x)
            have Hjs := hide (HS1.out.js_perm HS2.out id)
            obtain ⟨ids, hids⟩ : ∃ ids, idsS M1 = ids := ⟨_, rfl⟩
            obtain ⟨pz, hpz⟩ : ∃ pz, (getD M1 id).plain = pz := ⟨_, rfl⟩
            have hpp : (pz != pz) = false := by simp
            have hidl : ids.length ≤ 1000 := by
              rw [← hids]
              have := (rise_perm (M1.map Sp.id)).length_eq
              have h2 := (H1.out _ (Below.refl _ _)).len
              unfold idsS
              rw [this, List.length_map]
              omega
            have Hids := hide hids
            have HidsX := hide (hie.symm.trans hids)
            have Hpz := hide hpz
            have HpzX := hide (hpe.symm.trans hpz)
            have Hf1 := hide (facts_any b1 m1 M1 wr (H1.out _ hq.out).book)
            rw [hids] at Hf1
            clear hie hpe hids hpz
            go_wp2_with fail
            (with_reducible refine Hf1.out.mono ?_)
            rintro e V1 ⟨v, rfl, hrow, hbf⟩
            obtain ⟨fa, fc, rfl⟩ := row_form hrow
            have Hfa := hide (NIs.of_row (l := ids) (by omega) hrow)
            have Hq1 := hide (hq.out.trans (hbf.mono hq.out.size))
            have Hf2 := hide (facts_any b2 m2 M2 V1 (H2.out _ Hq1.out).book)
            rw [HidsX.out] at Hf2
            clear hrow hbf Hf1 hq
            go_wp2_with fail
            (with_reducible refine Hf2.out.mono ?_)
            rintro e V2 ⟨v, rfl, hrow, hbf⟩
            obtain ⟨ga, gc, rfl⟩ := row_form hrow
            have hr1 := rows_any _ _ ids ids V2 (Hfa.out.below hbf) (NIs.of_row (l := ids) (by omega) hrow)
            rw [(cmpL_zero ids ids).2 rfl] at hr1
            have Hr1 := hide hr1
            have Hq2 := hide (Hq1.out.trans (hbf.mono Hq1.out.size))
            clear hrow hbf Hf2 hr1 Hq1 Hfa
            go_wp2_with fail
            (with_reducible refine Hr1.out.mono ?_)
            rintro e V3 ⟨rfl, hbf⟩
            have Hq3 := hide (Hq2.out.trans (hbf.mono Hq2.out.size))
            have Hl1 := hide (lost_any b1 m1 M1 V3 (H1.out _ Hq3.out).book)
            clear hbf Hr1 Hq2
            go_wp2_with fail
            (with_reducible refine Hl1.out.mono ?_)
            rintro e V4 ⟨v, ll, rfl, hnl, ⟨P, hP, hll⟩, hbl⟩
            obtain ⟨lla, llc, rfl⟩ := hnl.form
            have Hq4 := hide (Hq3.out.trans (hbl.mono Hq3.out.size))
            have HLL := hide (And.intro hP hll)
            have Hnl := hide hnl
            have Hl2 := hide (lost_any b2 m2 M2 V4 (H2.out _ Hq4.out).book)
            clear hnl hP hll hbl Hl1 Hq3
            go_wp2_with fail
            (with_reducible refine Hl2.out.mono ?_)
            rintro e V5 ⟨v, ll2, rfl, hnl2, ⟨P2, hP2, hll2⟩, hbl⟩
            obtain rfl : ll = ll2 := lost_eq (HidsX.out ▸ Hids.out) Hheld.out HLL.out.1 HLL.out.2 hP2 hll2
            obtain ⟨mla, mlc, rfl⟩ := hnl2.form
            have hr1 := rows_any _ _ ll ll V5 (Hnl.out.below hbl) hnl2
            rw [(cmpL_zero ll ll).2 rfl] at hr1
            have Hr1 := hide hr1
            have Hq5 := hide (Hq4.out.trans (hbl.mono Hq4.out.size))
            clear hnl2 hP2 hll2 hbl Hl2 HLL hr1 Hnl Hq4
            go_wp2_with fail
            (with_reducible refine Hr1.out.mono ?_)
            rintro e V6 ⟨rfl, hbf⟩
            have Hq6 := hide (Hq5.out.trans (hbf.mono Hq5.out.size))
            have hp1 := isPlain_any b1 m1 M1 id V6 (H1.out _ Hq6.out).book
            have hp2 := isPlain_any b2 m2 M2 id V6 (H2.out _ Hq6.out).book
            rw [Hpz.out] at hp1
            rw [HpzX.out] at hp2
            have Hp1 := hide hp1
            have Hp2 := hide hp2
            have Ho1 := hide (of_any b1 m1 M1 id V6 (H1.out _ Hq6.out).book (by have := (H1.out _ Hq6.out).js id; omega))
            clear hbf Hr1 Hq5 hp1 hp2
            go_wp2_with fail
            (with_reducible refine Hp1.out.mono ?_)
            rintro e V7 ⟨rfl, rfl⟩
            go_wp2_with fail
            (with_reducible refine Hp2.out.mono ?_)
            rintro e V8 ⟨rfl, rfl⟩
            clear Hp1 Hp2
            go_wp2_with fail
            (with_reducible refine Ho1.out.mono ?_)
            rintro e V9 ⟨v, L, rfl, hoL, hLp, hLs, hbo⟩
            obtain ⟨oa, oc, rfl⟩ := hoL.form
            have hLl : L.length ≤ 1000 := by
              have h1 := hLp.length_eq
              rw [List.length_map, List.length_map] at h1
              have := (H1.out _ Hq6.out).js id
              omega
            have HL := hide (hoL.js (by omega))
            have HLp := hide hLp
            have HLs := hide hLs
            have Hq9 := hide (Hq6.out.trans (hbo.mono Hq6.out.size))
            have Ho2 := hide (of_any b2 m2 M2 id V9 (H2.out _ Hq9.out).book (by have := (H2.out _ Hq9.out).js id; omega))
            clear hoL hLp hLs hbo Ho1 Hq6
            go_wp2_with fail
            (with_reducible refine Ho2.out.mono ?_)
            rintro e V10 ⟨v, L2, rfl, hoL, hLp, hLs, hbo⟩
            obtain ⟨oa2, oc2, rfl⟩ := hoL.form
            have hLl2 : L2.length ≤ 1000 := by
              have h1 := hLp.length_eq
              rw [List.length_map, List.length_map] at h1
              have := (H2.out _ Hq9.out).js id
              omega
            have hsm := sorted_same (HLp.out.trans (Hjs.out.trans hLp.symm)) HLs.out hLs
            have hsa := sameAll29_any _ _ L L2 V10 (HL.out.keeps (KeepsCells.below hbo)) (hoL.js (by omega))
            rw [decide_eq_true hsm] at hsa
            have Hsa := hide hsa
            have Hq10 := hide (Hq9.out.trans (hbo.mono Hq9.out.size))
            clear hoL hLp hLs hbo Ho2 Hq9 hsm hsa HL
            go_wp2_with fail
            (with_reducible refine Hsa.out.mono ?_)
            rintro e V11 ⟨rfl, hbf⟩
            have Hq11 := hide (Hq10.out.trans (hbf.mono Hq10.out.size))
            clear hbf Hsa Hq10
            go_wp2
            go_roundw
            case rel => exact ⟨0 + 1, by omega, by go_num, Hq11.out⟩
            case measure => simp [intOf]
          · have hix := index_two1 (.pointer (some ⟨b2, 0, none⟩)) (.pointer (some ⟨b3, 0, none⟩)) wr
            have hie : idsS M1 = idsS M3 := HS1.out.ids_eq HS3.out
            have hpe : (getD M1 id).plain = (getD M3 id).plain := HS1.out.plain_eq HS3.out id
            have Hheld := hide (fun x => HS1.out.held_eq HS3.out x)
            have Hjs := hide (HS1.out.js_perm HS3.out id)
            obtain ⟨ids, hids⟩ : ∃ ids, idsS M1 = ids := ⟨_, rfl⟩
            obtain ⟨pz, hpz⟩ : ∃ pz, (getD M1 id).plain = pz := ⟨_, rfl⟩
            have hpp : (pz != pz) = false := by simp
            have hidl : ids.length ≤ 1000 := by
              rw [← hids]
              have := (rise_perm (M1.map Sp.id)).length_eq
              have h2 := (H1.out _ (Below.refl _ _)).len
              unfold idsS
              rw [this, List.length_map]
              omega
            have Hids := hide hids
            have HidsX := hide (hie.symm.trans hids)
            have Hpz := hide hpz
            have HpzX := hide (hpe.symm.trans hpz)
            have Hf1 := hide (facts_any b1 m1 M1 wr (H1.out _ hq.out).book)
            rw [hids] at Hf1
            clear hie hpe hids hpz
            go_wp2_with fail
            (with_reducible refine Hf1.out.mono ?_)
            rintro e V1 ⟨v, rfl, hrow, hbf⟩
            obtain ⟨fa, fc, rfl⟩ := row_form hrow
            have Hfa := hide (NIs.of_row (l := ids) (by omega) hrow)
            have Hq1 := hide (hq.out.trans (hbf.mono hq.out.size))
            have Hf2 := hide (facts_any b3 m3 M3 V1 (H3.out _ Hq1.out).book)
            rw [HidsX.out] at Hf2
            clear hrow hbf Hf1 hq
            go_wp2_with fail
            (with_reducible refine Hf2.out.mono ?_)
            rintro e V2 ⟨v, rfl, hrow, hbf⟩
            obtain ⟨ga, gc, rfl⟩ := row_form hrow
            have hr1 := rows_any _ _ ids ids V2 (Hfa.out.below hbf) (NIs.of_row (l := ids) (by omega) hrow)
            rw [(cmpL_zero ids ids).2 rfl] at hr1
            have Hr1 := hide hr1
            have Hq2 := hide (Hq1.out.trans (hbf.mono Hq1.out.size))
            clear hrow hbf Hf2 hr1 Hq1 Hfa
            go_wp2_with fail
            (with_reducible refine Hr1.out.mono ?_)
            rintro e V3 ⟨rfl, hbf⟩
            have Hq3 := hide (Hq2.out.trans (hbf.mono Hq2.out.size))
            have Hl1 := hide (lost_any b1 m1 M1 V3 (H1.out _ Hq3.out).book)
            clear hbf Hr1 Hq2
            go_wp2_with fail
            (with_reducible refine Hl1.out.mono ?_)
            rintro e V4 ⟨v, ll, rfl, hnl, ⟨P, hP, hll⟩, hbl⟩
            obtain ⟨lla, llc, rfl⟩ := hnl.form
            have Hq4 := hide (Hq3.out.trans (hbl.mono Hq3.out.size))
            have HLL := hide (And.intro hP hll)
            have Hnl := hide hnl
            have Hl2 := hide (lost_any b3 m3 M3 V4 (H3.out _ Hq4.out).book)
            clear hnl hP hll hbl Hl1 Hq3
            go_wp2_with fail
            (with_reducible refine Hl2.out.mono ?_)
            rintro e V5 ⟨v, ll2, rfl, hnl2, ⟨P2, hP2, hll2⟩, hbl⟩
            obtain rfl : ll = ll2 := lost_eq (HidsX.out ▸ Hids.out) Hheld.out HLL.out.1 HLL.out.2 hP2 hll2
            obtain ⟨mla, mlc, rfl⟩ := hnl2.form
            have hr1 := rows_any _ _ ll ll V5 (Hnl.out.below hbl) hnl2
            rw [(cmpL_zero ll ll).2 rfl] at hr1
            have Hr1 := hide hr1
            have Hq5 := hide (Hq4.out.trans (hbl.mono Hq4.out.size))
            clear hnl2 hP2 hll2 hbl Hl2 HLL hr1 Hnl Hq4
            go_wp2_with fail
            (with_reducible refine Hr1.out.mono ?_)
            rintro e V6 ⟨rfl, hbf⟩
            have Hq6 := hide (Hq5.out.trans (hbf.mono Hq5.out.size))
            have hp1 := isPlain_any b1 m1 M1 id V6 (H1.out _ Hq6.out).book
            have hp2 := isPlain_any b3 m3 M3 id V6 (H3.out _ Hq6.out).book
            rw [Hpz.out] at hp1
            rw [HpzX.out] at hp2
            have Hp1 := hide hp1
            have Hp2 := hide hp2
            have Ho1 := hide (of_any b1 m1 M1 id V6 (H1.out _ Hq6.out).book (by have := (H1.out _ Hq6.out).js id; omega))
            clear hbf Hr1 Hq5 hp1 hp2
            go_wp2_with fail
            (with_reducible refine Hp1.out.mono ?_)
            rintro e V7 ⟨rfl, rfl⟩
            go_wp2_with fail
            (with_reducible refine Hp2.out.mono ?_)
            rintro e V8 ⟨rfl, rfl⟩
            clear Hp1 Hp2
            go_wp2_with fail
            (with_reducible refine Ho1.out.mono ?_)
            rintro e V9 ⟨v, L, rfl, hoL, hLp, hLs, hbo⟩
            obtain ⟨oa, oc, rfl⟩ := hoL.form
            have hLl : L.length ≤ 1000 := by
              have h1 := hLp.length_eq
              rw [List.length_map, List.length_map] at h1
              have := (H1.out _ Hq6.out).js id
              omega
            have HL := hide (hoL.js (by omega))
            have HLp := hide hLp
            have HLs := hide hLs
            have Hq9 := hide (Hq6.out.trans (hbo.mono Hq6.out.size))
            have Ho2 := hide (of_any b3 m3 M3 id V9 (H3.out _ Hq9.out).book (by have := (H3.out _ Hq9.out).js id; omega))
            clear hoL hLp hLs hbo Ho1 Hq6
            go_wp2_with fail
            (with_reducible refine Ho2.out.mono ?_)
            rintro e V10 ⟨v, L2, rfl, hoL, hLp, hLs, hbo⟩
            obtain ⟨oa2, oc2, rfl⟩ := hoL.form
            have hLl2 : L2.length ≤ 1000 := by
              have h1 := hLp.length_eq
              rw [List.length_map, List.length_map] at h1
              have := (H3.out _ Hq9.out).js id
              omega
            have hsm := sorted_same (HLp.out.trans (Hjs.out.trans hLp.symm)) HLs.out hLs
            have hsa := sameAll29_any _ _ L L2 V10 (HL.out.keeps (KeepsCells.below hbo)) (hoL.js (by omega))
            rw [decide_eq_true hsm] at hsa
            have Hsa := hide hsa
            have Hq10 := hide (Hq9.out.trans (hbo.mono Hq9.out.size))
            clear hoL hLp hLs hbo Ho2 Hq9 hsm hsa HL
            go_wp2_with fail
            (with_reducible refine Hsa.out.mono ?_)
            rintro e V11 ⟨rfl, hbf⟩
            have Hq11 := hide (Hq10.out.trans (hbf.mono Hq10.out.size))
            clear hbf Hsa Hq10
            go_wp2
            go_roundw
            case rel => exact ⟨1 + 1, by omega, by go_num, Hq11.out⟩
            case measure => simp [intOf]
          · go_wp2_with (go_at_call 25; refine (known29_walk _).mono ?_; rintro e w' ⟨rfl, hk⟩)
            go_ret
            have := Hb3.out.trans (hq.out.mono Hb3.out.size)
            exact ⟨rfl, this.trans (hk.mono this.size)⟩
end Go.Proofs.Ytmcajoccfbebiaa
