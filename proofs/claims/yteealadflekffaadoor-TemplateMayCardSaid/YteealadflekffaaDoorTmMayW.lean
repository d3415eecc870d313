/- TemplateMay: the walk. -/
import Derived.Test.YteealadflekffaaDoorTmMay
import Derived.Test.YteealadflekffaaDoorTmKinds
import Derived.Test.YteealadflekffaaDoorTm13
namespace Go.Proofs.YteealadflekffaaDoor
open Go Go.RowKit Go.Lib

theorem rmay4_any (a : Option Addr) (c : Nat) (L : List Tpl) (w : World) (h : TplsIs w a c L) :
    Calls Tryd.prog 20 #[.slice a L.length c] w fun e w' => e = .returned (.bool (tmayB L)) ∧ Below w.heap.size w w' := by
  by_cases hL : L.length ≤ 16
  · exact rmay_small a c L w h hL
  · exact rmay_long a c L w h hL

set_option maxRecDepth 100000 in
set_option maxHeartbeats 8000000 in
theorem may_mid (a : Option Addr) (c : Nat) (L : List Tpl) (name : ByteArray) (kind : Int) (w : World) (hT : Tab w)
    (h : TplsIs w a c L) (hg1 : greatB L = false) (hs : name.size ≤ 100) :
    Calls Tryd.prog 7 #[.slice a L.length c, .string name, .int .u8 kind] w fun e w' => e = .returned (.bool true) ∧ Below w.heap.size w w' := by
  have G1 := great_any a c L w h
  rw [hg1] at G1
  have hlen := h.1.len
  have HG := hide G1
  have HT := hide hT
  have H := hide h
  have HK := hide fun V (hV : Below w.heap.size w V) => known_any V (hT.below hV)
  have Hsz := hide (show name.size ≤ 9223372036854775807 by omega)
  have d : (name.size : Int) ≤ 100 := by omega
  have d' : decide ((100 : Int) < name.size) = false := by simp; omega
  have K1 := hide (kind_any name w hT)
  have K2 := hide fun V => rkind_any name V
  have N1 := hide fun V (hV : Below w.heap.size w V) => name_any name Hsz.out V (HT.out.below hV)
  have N2 := hide fun V => rname4_any name Hsz.out V
  have M1 := hide fun V (hV : Below w.heap.size w V) => tmay_any a c L V (HT.out.below hV) (H.out.below hV)
  have M2 := hide fun V (hV : Below w.heap.size w V) => rmay4_any a c L V (H.out.below hV)
  have F1 := hide fun V (hV : Below w.heap.size w V) => find_any a c L name V (H.out.below hV)
  have F2 := hide fun V (hV : Below w.heap.size w V) => rfind_any a c L name V (H.out.below hV)
  have Q1 := hide fun V (hV : Below w.heap.size w V) => kindName_any kind V (HT.out.below hV)
  have Q2 := hide fun V => rkindName_any kind V
  obtain ⟨kk, hkk⟩ : ∃ q, (kindB name).1 = q := ⟨_, rfl⟩
  obtain ⟨ko, hko⟩ : ∃ q, (kindB name).2 = q := ⟨_, rfl⟩
  obtain ⟨nb, hnb⟩ : ∃ q, tnameB name = q := ⟨_, rfl⟩
  obtain ⟨mb, hmb⟩ : ∃ q, tmayB L = q := ⟨_, rfl⟩
  obtain ⟨fi, hfi⟩ : ∃ q, findI L name = q := ⟨_, rfl⟩
  obtain ⟨kb, hkb⟩ : ∃ q, knB kind = q := ⟨_, rfl⟩
  rw [hkk, hko] at K1
  simp only [hkk, hko] at K2
  rw [hnb] at N1 N2
  rw [hmb] at M1 M2
  rw [hfi] at F1 F2
  rw [hkb] at Q1 Q2
  clear G1 hT h hg1 hs hkk hko hnb hmb hfi hkb
  go_enter Tryd.func7, Tryd.ntmps7
  go_wp2_with fail
  (with_reducible refine HG.out.mono ?_)
  rintro e U ⟨rfl, rfl⟩
  go_wp2_with fail
  (with_reducible refine K1.out.mono ?_)
  rintro e U1 ⟨rfl, hu1⟩
  have C1 := hide hu1
  clear hu1
  go_wp2_with fail
  (with_reducible refine (K2.out U1).mono ?_)
  rintro e U ⟨rfl, rfl⟩
  go_wp2_with fail
  (with_reducible refine (N1.out U1 C1.out).mono ?_)
  rintro e U2 ⟨rfl, hu2⟩
  have C2 := hide (C1.out.trans (hu2.mono C1.out.size))
  clear hu2
  go_wp2_with fail
  (with_reducible refine (N2.out U2).mono ?_)
  rintro e U ⟨rfl, rfl⟩
  go_wp2_with fail
  (with_reducible refine (M1.out U2 C2.out).mono ?_)
  rintro e U3 ⟨rfl, hu3⟩
  have C3 := hide (C2.out.trans (hu3.mono C2.out.size))
  clear hu3
  go_wp2_with fail
  (with_reducible refine (M2.out U3 C3.out).mono ?_)
  rintro e U4 ⟨rfl, hu4⟩
  have C4 := hide (C3.out.trans (hu4.mono C3.out.size))
  clear hu4
  go_wp2_with fail
  (with_reducible refine (F1.out U4 C4.out).mono ?_)
  rintro e U5 ⟨rfl, hu5⟩
  have C5 := hide (C4.out.trans (hu5.mono C4.out.size))
  clear hu5
  go_wp2_with fail
  (with_reducible refine (F2.out U5 C5.out).mono ?_)
  rintro e U ⟨rfl, rfl⟩
  go_wp2_with fail
  (with_reducible refine (Q1.out U5 C5.out).mono ?_)
  rintro e U6 ⟨rfl, hu6⟩
  have C6 := hide (C5.out.trans (hu6.mono C5.out.size))
  clear hu6
  go_wp2_with fail
  (with_reducible refine (Q2.out U6).mono ?_)
  rintro e U ⟨rfl, rfl⟩
  go_wp2
  go_loopw [70] (fun vi wr => ∃ i : Nat, i ≤ L.length ∧ vi = .int .i64 i ∧ Hid (Below w.heap.size w wr)) (fun vi _ => L.length - (intOf vi).toNat)
  case atStart => exact ⟨0, Nat.zero_le _, rfl, C6.out⟩
  case round =>
    obtain ⟨i, hi, rfl, hb⟩ := hrel
    by_cases hil : i < L.length
    · obtain ⟨W0, hW0⟩ : ∃ W0, wr.drew = W0 := ⟨_, rfl⟩
      have hbW : Below wr.heap.size wr W0 := by rw [← hW0]; exact (Below.refl wr.heap.size wr).drew
      have BW := hide (hb.out.trans (hbW.mono hb.out.size))
      have hr := H.out.below BW.out
      obtain ⟨b, off, ea, z0, z1⟩ := hr.at hil
      have ht := hr.2 _ (List.getElem_mem hil)
      have hs1 := slot_any L[i] name W0 ht
      have hs2 := fun V (hV : Below w.heap.size w V) => rslot_any L[i] name V ((H.out.below hV).2 _ (List.getElem_mem hil))
      have hw := H.out.below hb.out
      obtain ⟨b', off', ea', c0, c1⟩ := hw.at hil
      rw [ea] at ea'
      cases ea'
      subst ea
      obtain ⟨t, htt⟩ : ∃ t, L[i] = t := ⟨_, rfl⟩
      rw [htt] at z0 z1 c0 c1 hs1 hs2
      clear htt hr ht hw hbW
      obtain ⟨nm, sl, sa, sc⟩ := t
      simp only at z0 z1 c0 c1 hs1 hs2
      obtain ⟨si, hsi⟩ : ∃ f, slotI sl name = f := ⟨_, rfl⟩
      rw [hsi] at hs1 hs2
      have Hs1 := hide hs1
      have Hs2 := hide hs2
      have i1 : (0 : Int) ≤ (i : Int) := by omega
      have i2 : (i : Int) < (L.length : Int) := by omega
      clear hs1 hs2 hsi
      go_wp2_with fail
      refine wp_region_noPanic ?_
      refine wp_region_held_drew (S := fun V => V.cell? ⟨b, off + i * 2, none⟩ = some (.string nm) ∧ V.cell? ⟨b, off + i * 2 + 1, none⟩ = some (.slice sa sl.length sc)) (by kernel_rfl) ?_ (fun hHeld => ?_)
      · (try dsimp only); go_keep
      rw [hW0] at hHeld ⊢
      clear hW0
      refine wpAnyH_take (i := 0) (oi := ⟨some 73, _, _, _, _, _⟩) (v := ?v0q) rfl (by kernel_rfl) (by kernel_rfl) (by kernel_rfl) (fun _ _ _ h => h) (Or.inl ⟨by rfl, ?h0q⟩) (by assumption) ?r0q
      case h0q => (intro w hSw; (try dsimp only at hSw); (first | (go_simp; done) | (go_simp; with_reducible rfl)))
      try simp only [Act.put, List.setIfInBounds_toArray, List.set_cons_zero, List.set_cons_succ]
      refine wpAnyH_take (i := 1) (oi := ⟨some 74, _, _, _, _, _⟩) (v := ?v1q) rfl (by kernel_rfl) (by kernel_rfl) (by kernel_rfl) (fun _ _ _ h => h) (Or.inl ⟨by rfl, ?h1q⟩) (by assumption) ?r1q
      case h1q => (intro w hSw; (try dsimp only at hSw); (first | (go_simp; done) | (go_simp; with_reducible rfl)))
      try simp only [Act.put, List.setIfInBounds_toArray, List.set_cons_zero, List.set_cons_succ]
      refine wpAnyH_take (i := 2) (oi := ⟨some 75, _, _, _, _, _⟩) (v := ?v2q) rfl (by kernel_rfl) (by kernel_rfl) (by kernel_rfl) (fun _ _ _ h => h) (Or.inl ⟨by rfl, ?h2q⟩) (by assumption) ?r2q
      case h2q => (intro w hSw; (try dsimp only at hSw); (first | (go_simp; done) | (go_simp; with_reducible rfl)))
      try simp only [Act.put, List.setIfInBounds_toArray, List.set_cons_zero, List.set_cons_succ]
      refine wpAnyH_take (i := 3) (oi := ⟨some 76, _, _, _, _, _⟩) (v := ?v3q) rfl (by kernel_rfl) (by kernel_rfl) (by kernel_rfl) (fun _ _ _ h => h) (Or.inl ⟨by rfl, ?h3q⟩) (by assumption) ?r3q
      case h3q => (intro w hSw; (try dsimp only at hSw); (first | (go_simp; done) | (go_simp; with_reducible rfl)))
      try simp only [Act.put, List.setIfInBounds_toArray, List.set_cons_zero, List.set_cons_succ]
      refine wpAnyH_take (i := 4) (oi := ⟨some 77, _, _, _, _, _⟩) (v := ?v4q) rfl (by kernel_rfl) (by kernel_rfl) (by kernel_rfl) (fun _ _ _ h => h) (Or.inl ⟨by rfl, ?h4q⟩) (by assumption) ?r4q
      case h4q => (intro w hSw; (try dsimp only at hSw); (first | (go_simp; done) | (go_simp; with_reducible rfl)))
      try simp only [Act.put, List.setIfInBounds_toArray, List.set_cons_zero, List.set_cons_succ]
      refine wpAnyH_take (i := 6) (oi := ⟨some 79, _, _, _, _, _⟩) (v := ?v6q) rfl (by kernel_rfl) (by kernel_rfl) (by kernel_rfl) (fun _ _ _ h => h) (Or.inl ⟨by rfl, ?h6q⟩) (by assumption) ?r6q
      case h6q => (intro w hSw; (try dsimp only at hSw); (first | (go_simp; done) | (go_simp; with_reducible rfl)))
      try simp only [Act.put, List.setIfInBounds_toArray, List.set_cons_zero, List.set_cons_succ]
      refine wpAnyH_take (i := 7) (oi := ⟨some 80, _, _, _, _, _⟩) (v := ?v7q) rfl (by kernel_rfl) (by kernel_rfl) (by kernel_rfl) (fun _ _ _ h => h) (Or.inl ⟨by rfl, ?h7q⟩) (by assumption) ?r7q
      case h7q => (intro w hSw; (try dsimp only at hSw); (first | (go_simp; done) | (go_simp; with_reducible rfl)))
      try simp only [Act.put, List.setIfInBounds_toArray, List.set_cons_zero, List.set_cons_succ]
      refine wpAnyH_take (i := 8) (oi := ⟨some 81, _, _, _, _, _⟩) (v := ?v8q) rfl (by kernel_rfl) (by kernel_rfl) (by kernel_rfl) (fun _ _ _ h => h) (Or.inl ⟨by rfl, ?h8q⟩) (by assumption) ?r8q
      case h8q => (intro w hSw; (try dsimp only at hSw); (first | (go_simp; done) | (go_simp; with_reducible rfl)))
      try simp only [Act.put, List.setIfInBounds_toArray, List.set_cons_zero, List.set_cons_succ]
      refine wpAnyH_take (i := 9) (oi := ⟨some 82, _, _, _, _, _⟩) (v := ?v9q) rfl (by kernel_rfl) (by kernel_rfl) (by kernel_rfl) (fun _ _ _ h => h) (Or.inl ⟨by rfl, ?h9q⟩) (by assumption) ?r9q
      case h9q => (intro w hSw; (try dsimp only at hSw); (first | (go_simp; done) | (go_simp; with_reducible rfl)))
      try simp only [Act.put, List.setIfInBounds_toArray, List.set_cons_zero, List.set_cons_succ]
      refine wpAnyH_take (i := 10) (oi := ⟨some 83, _, _, _, _, _⟩) (v := ?v10q) rfl (by kernel_rfl) (by kernel_rfl) (by kernel_rfl) (fun _ _ _ h => h) (Or.inl ⟨by rfl, ?h10q⟩) (by assumption) ?r10q
      case h10q => (intro w hSw; (try dsimp only at hSw); (first | (go_simp; done) | (go_simp; with_reducible rfl)))
      try simp only [Act.put, List.setIfInBounds_toArray, List.set_cons_zero, List.set_cons_succ]
      refine wpAnyH_ready (rs := [5]) (by kernel_rfl) (by simp) ?_
      refine AllReadyH.cons (o := ⟨some 78, _, _, _, _, _⟩) (rs := []) rfl (fun K hK => ?_) AllReadyH.nil
      go_simp
      go_at_call 15
      refine Hs1.out.mono ?_
      rintro e V ⟨rfl, cV⟩
      have v0 := bcell cV z0
      have v1 := bcell cV z1
      have BV := hide (BW.out.trans (cV.mono BW.out.size))
      clear cV
      try go_wp2_with fail
      clear hHeld
      refine hK.out _ _ ?_ (fun hHeld => ?_)
      · (try dsimp only); go_keep
      clear hK K
      try simp only [Act.put, List.setIfInBounds_toArray, List.set_cons_zero, List.set_cons_succ]
      refine wpAnyH_ready (rs := [11]) (by kernel_rfl) (by simp) ?_
      refine AllReadyH.cons (o := ⟨some 84, _, _, _, _, _⟩) (rs := []) rfl (fun K hK => ?_) AllReadyH.nil
      go_simp
      go_at_call 23
      refine (Hs2.out V BV.out).mono ?_
      rintro e X ⟨rfl, cX⟩
      have x0 := bcell cX v0
      have x1 := bcell cX v1
      have BX := hide (BV.out.trans (cX.mono BV.out.size))
      clear cX
      try go_wp2_with fail
      clear hHeld
      refine hK.out _ _ ?_ (fun hHeld => ?_)
      · (try dsimp only); go_keep
      clear hK K
      try simp only [Act.put, List.setIfInBounds_toArray, List.set_cons_zero, List.set_cons_succ]
      refine wpAnyH_take (i := 12) (oi := ⟨some 85, _, _, _, _, _⟩) (v := ?v12q) rfl (by kernel_rfl) (by kernel_rfl) (by kernel_rfl) (fun _ _ _ h => h) (Or.inl ⟨by rfl, ?h12q⟩) (by assumption) ?r12q
      case h12q => (intro w hSw; (try dsimp only at hSw); (first | (go_simp; done) | (go_simp; with_reducible rfl)))
      try simp only [Act.put, List.setIfInBounds_toArray, List.set_cons_zero, List.set_cons_succ]
      refine wpAnyH_done (by kernel_rfl) ?_ _
      refine NoPanic.normal ?_
      clear x0 x1 v0 v1 z0 z1 c0 c1
      go_wp2
      go_roundw
      case rel => exact ⟨i + 1, by omega, by go_num, BX⟩
      case measure => simp [intOf]; omega
    · obtain rfl : i = L.length := by omega
      go_wp2_with fail
      (with_reducible refine (HK.out wr hb.out).mono ?_)
      rintro e U7 ⟨rfl, hu7⟩
      have C7 := hide (hb.out.trans (hu7.mono hb.out.size))
      clear hu7
      go_wp2
      go_ret
      exact ⟨rfl, C7.out⟩

set_option maxRecDepth 100000 in
set_option maxHeartbeats 4000000 in
theorem may_walk (a : Option Addr) (c : Nat) (L : List Tpl) (name : ByteArray) (hn : name.size ≤ 9223372036854775807) (kind : Int) (w : World) (hT : Tab w)
    (h : TplsIs w a c L) :
    Calls Tryd.prog 7 #[.slice a L.length c, .string name, .int .u8 kind] w fun e w' => e = .returned (.bool true) ∧ Below w.heap.size w w' := by
  by_cases hok : greatB L = false ∧ name.size ≤ 100
  · exact may_mid a c L name kind w hT h hok.1 hok.2
  · have HG := hide (great_any a c L w h)
    have HK0 := hide (known_any w hT)
    obtain ⟨q, hq⟩ : ∃ q, greatB L = q := ⟨_, rfl⟩
    rw [hq] at HG hok
    clear h hT hq
    cases q
    · have hs : 100 < name.size := by
        simp only [true_and] at hok
        omega
      have d : (100 : Int) < name.size := by omega
      clear hs hok
      go_enter Tryd.func7, Tryd.ntmps7
      go_wp2_with fail
      (with_reducible refine HG.out.mono ?_)
      rintro e U ⟨rfl, rfl⟩
      go_wp2_with fail
      (with_reducible refine HK0.out.mono ?_)
      rintro e U1 ⟨rfl, hu1⟩
      have R := hide hu1
      clear hu1
      go_wp2
      go_ret
      exact ⟨rfl, R.out⟩
    · clear hok
      go_enter Tryd.func7, Tryd.ntmps7
      go_wp2_with fail
      (with_reducible refine HG.out.mono ?_)
      rintro e U ⟨rfl, rfl⟩
      go_wp2_with fail
      (with_reducible refine HK0.out.mono ?_)
      rintro e U1 ⟨rfl, hu1⟩
      have R := hide hu1
      clear hu1
      go_wp2
      go_ret
      exact ⟨rfl, R.out⟩
end Go.Proofs.YteealadflekffaaDoor
