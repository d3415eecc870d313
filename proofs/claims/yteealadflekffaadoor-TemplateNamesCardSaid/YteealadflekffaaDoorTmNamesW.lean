/- TemplateNames: the walk. -/
import Derived.Test.YteealadflekffaaDoorTmLaw
import Derived.Test.YteealadflekffaaDoorTmNulls
import Derived.Test.YteealadflekffaaDoorTmKinds
namespace Go.Proofs.YteealadflekffaaDoor
open Go Go.RowKit Go.Lib

theorem knB_ne {k : Int} (h1 : 1 ≤ k) (h5 : k ≤ 5) : 0 < (knB k).size := by
  have hk : k = 1 ∨ k = 2 ∨ k = 3 ∨ k = 4 ∨ k = 5 := by omega
  rcases hk with rfl | rfl | rfl | rfl | rfl <;> decide

set_option maxRecDepth 100000 in
set_option maxHeartbeats 8000000 in
theorem names_mid (a : Addr) (c : Nat) (L : List Tpl) (k : Int) (w : World) (hT : Tab w)
    (h : TplsIs w (some a) c L) (hg1 : greatB L = false) (hm : tmayB L = true) :
    Calls Tryd.prog 5 #[.slice (some a) L.length c, .int .i64 k] w fun e w' => e = .returned (.bool true) ∧ Below w.heap.size w w' := by
  have G1 := great_any (some a) c L w h
  rw [hg1] at G1
  have M1 := tmay_any (some a) c L w hT h
  rw [hm] at M1
  obtain ⟨hL16, hok⟩ := (may_iff L).1 hm
  obtain ⟨m, hml, hje⟩ := u64_idx k (L.length + 1) (by omega)
  rw [show ((L.length + 1 : Nat) : Int) = (L.length : Int) + 1 by omega] at hje
  have hm1 : (m : Int) ≤ L.length := by omega
  have hm0 : (0 : Int) ≤ m := by omega
  have M2 := fun V (hV : Below w.heap.size w V) => tmay_any (some a) c (L.take m) V (hT.below hV) ((h.below hV).take m)
  have hlt : (L.take m).length = m := by rw [List.length_take]; omega
  rw [may_take hm m, hlt] at M2
  have HG := hide G1
  have HM1 := hide M1
  have HM2 := hide M2
  have HT := hide hT
  have H := hide h
  have Hok := hide hok
  have hcap := h.1.1
  have hcm := h.1.2.1
  have HK := hide fun V (hV : Below w.heap.size w V) => known_any V (hT.below hV)
  clear G1 M1 M2 hT h hok hm hg1 hlt
  have d16 : (L.length : Int) ≤ 16 := by omega
  have d16' : decide ((16 : Int) < L.length) = false := by simp; omega
  go_enter Tryd.func5, Tryd.ntmps5
  go_wp2_with fail
  (with_reducible refine HG.out.mono ?_)
  rintro e U ⟨rfl, rfl⟩
  go_wp2_with fail
  (with_reducible refine HM1.out.mono ?_)
  rintro e U1 ⟨rfl, hu1⟩
  have C1 := hide hu1
  clear hu1
  go_wp2_with fail
  clear hje
  (with_reducible refine (HM2.out U1 C1.out).mono ?_)
  rintro e U2 ⟨rfl, hu2⟩
  have C2 := hide (C1.out.trans (hu2.mono C1.out.size))
  clear hu2
  go_wp2
  go_loopw [36] (fun vi wr => ∃ i : Nat, i ≤ L.length ∧ vi = .int .i64 i ∧ Hid (Below w.heap.size w wr)) (fun vi _ => L.length - (intOf vi).toNat)
  case atStart => exact ⟨0, Nat.zero_le _, rfl, C2.out⟩
  case round =>
    obtain ⟨i, hi, rfl, hb⟩ := hrel
    by_cases hil : i < L.length
    · have hr := H.out.below hb.out
      obtain ⟨b, off, ea, c0, c1⟩ := hr.at hil
      injection ea with ea
      subst ea
      have ht := hr.2 _ (List.getElem_mem hil)
      obtain ⟨k1, k2, k3, k4, k5⟩ := Hok.out i hil
      have hname := fun V (hV : Below w.heap.size w V) => name_any L[i].name ht.2 V (HT.out.below hV)
      rw [k1] at hname
      have hfind := fun V (hV : Below w.heap.size w V) => find_any (some ⟨b, off, none⟩) c L L[i].name V (H.out.below hV)
      rw [k2] at hfind
      obtain ⟨t, htt⟩ : ∃ t, L[i] = t := ⟨_, rfl⟩
      rw [htt] at hname hfind c0 c1 ht k3 k4
      have k5' : ∀ (j : Nat) (hj : j < t.s.length), slotOk t.s j hj := by
        have := k5
        simp only [htt] at this
        exact this
      clear k5 k1 k2 htt
      obtain ⟨nm, sl, sa, sc⟩ := t
      simp only at hname hfind c0 c1 ht k3 k4 k5'
      have Hname := hide hname
      have Hfind := hide hfind
      have K5 := hide k5'
      have hb1 := hb.out.alloc hb.out.size (.cells #[.string nm, .slice sa sl.length sc] 26)
      have hn1 := cell2 (heap_new wr (.cells #[.string nm, .slice sa sl.length sc] 26))
      have hrb := (Below.refl wr.heap.size wr).alloc (Nat.le_refl _) (.cells #[.string nm, .slice sa sl.length sc] 26)
      have Ht := hide (ht.below hrb)
      have Hn1 := hide hn1
      have Hb1 := hide hb1
      have hwr := Hb1.out.size
      clear hname hfind k5' hb1 hn1 hrb ht hr
      have i1 : (0 : Int) ≤ (i : Int) := by omega
      have i2 : (i : Int) < (L.length : Int) := by omega
      have d1 : (1 : Int) ≤ sl.length := by omega
      have d2 : (sl.length : Int) ≤ 8 := by omega
      have d1' : decide ((sl.length : Int) < 1) = false := by simp; omega
      have d2' : decide ((8 : Int) < sl.length) = false := by simp; omega
      clear k3 k4
      go_wp2_with fail
      clear c0 c1
      (with_reducible refine (Hname.out _ Hb1.out).mono ?_)
      rintro e X1 ⟨rfl, hx1⟩
      have E1 := hide hx1
      have B1 := hide (Hb1.out.trans (hx1.mono Hb1.out.size))
      have p0 := bcell hx1 Hn1.out.1
      have p1 := bcell hx1 Hn1.out.2
      clear hx1
      go_wp2_with fail
      (with_reducible refine (Hfind.out X1 B1.out).mono ?_)
      rintro e X2 ⟨rfl, hx2⟩
      have E2 := hide (E1.out.trans (hx2.mono E1.out.size))
      have q0 := bcell E2.out Hn1.out.1
      have q1 := bcell E2.out Hn1.out.2
      clear hx2 p0 p1
      go_wp2
      clear q0 q1
      obtain ⟨wo, rfl⟩ : ∃ wo : World, wo = wr := ⟨_, rfl⟩
      go_loopw [68] (fun vi wx => ∃ j : Nat, j ≤ sl.length ∧ vi = .int .i64 j ∧ Hid (Below (wo.alloc (.cells #[.string nm, .slice sa sl.length sc] 26)).heap.size (wo.alloc (.cells #[.string nm, .slice sa sl.length sc] 26)) wx)) (fun vi _ => sl.length - (intOf vi).toNat)
      case atStart => exact ⟨0, Nat.zero_le _, rfl, E2.out⟩
      case round =>
        obtain ⟨j, hj, rfl, hbx⟩ := hrel
        have y0 := bcell hbx.out Hn1.out.1
        have y1 := bcell hbx.out Hn1.out.2
        have hwi := Hb1.out.trans (hbx.out.mono Hb1.out.size)
        by_cases hjl : j < sl.length
        · have hs := Ht.out.1.below hbx.out
          have htx := Ht.out.below hbx.out
          obtain ⟨sb, soff, es, s0, s1⟩ := hs.at hjl
          have hsk := hs.2 _ (List.getElem_mem hjl)
          obtain ⟨l1, l2, l3, l4⟩ := K5.out j hjl
          have hname := fun V (hV : Below w.heap.size w V) => name_any sl[j].n hsk.2.2 V (HT.out.below hV)
          rw [l1] at hname
          have hslot := fun V (hV : Below wr.heap.size wr V) => slot_any ⟨nm, sl, sa, sc⟩ sl[j].n V (htx.below hV)
          simp only [l2] at hslot
          have hkn := fun V (hV : Below w.heap.size w V) => kindName_any sl[j].k V (HT.out.below hV)
          obtain ⟨x, hx⟩ : ∃ x, sl[j] = x := ⟨_, rfl⟩
          rw [hx] at hname hslot hkn s0 s1 l3 l4
          obtain ⟨sn, sk⟩ := x
          simp only at hname hslot hkn s0 s1 l3 l4
          subst es
          have Hname2 := hide hname
          have Hslot := hide hslot
          have Hkn := hide hkn
          have hne := knB_ne l3 l4
          obtain ⟨kb, hkb⟩ : ∃ kb, knB sk = kb := ⟨_, rfl⟩
          rw [hkb] at Hkn hne
          have hne1 := isEmpty_ff hne
          have hne2 := toList_ne hne
          have hb2 := hwi.alloc hwi.size (.cells #[.string sn, .int .u8 sk] 39)
          have hn2 := cell2 (heap_new wr (.cells #[.string sn, .int .u8 sk] 39))
          have hrb2 := (Below.refl wr.heap.size wr).alloc (Nat.le_refl _) (.cells #[.string sn, .int .u8 sk] 39)
          have Hn2 := hide hn2
          have Hb2 := hide hb2
          have Hrb2 := hide hrb2
          have Hbx := hide hbx.out
          have hwrs : wo.heap.size < wr.heap.size := by have := hbx.out.size; simp at this; omega
          have j1 : (0 : Int) ≤ (j : Int) := by omega
          have j2 : (j : Int) < (sl.length : Int) := by omega
          clear hname hslot hkn hb2 hn2 hrb2 hs htx hsk l1 l2 l3 l4 hx hkb hne hwi
          go_wp2_with fail
          clear s0 s1
          (with_reducible refine (Hname2.out _ Hb2.out).mono ?_)
          rintro e Y1 ⟨rfl, hy1⟩
          have E1 := hide (Hrb2.out.trans (hy1.mono Hrb2.out.size))
          have B1 := hide (Hb2.out.trans (hy1.mono Hb2.out.size))
          have p0 := bcell hy1 Hn2.out.1
          have p1 := bcell hy1 Hn2.out.2
          have r0 := bcell E1.out y0
          have r1 := bcell E1.out y1
          clear hy1 y0 y1
          go_wp2_with fail
          (with_reducible refine (Hslot.out Y1 E1.out).mono ?_)
          rintro e Y2 ⟨rfl, hy2⟩
          have E2 := hide (E1.out.trans (hy2.mono E1.out.size))
          have B2 := hide (B1.out.trans (hy2.mono B1.out.size))
          have q0 := bcell hy2 p0
          have q1 := bcell hy2 p1
          clear hy2 p0 p1 r0 r1
          go_wp2_with fail
          (with_reducible refine (Hkn.out Y2 B2.out).mono ?_)
          rintro e Y3 ⟨rfl, hy3⟩
          have E3 := hide (E2.out.trans (hy3.mono E2.out.size))
          clear hy3 q0 q1
          go_wp2
          go_roundw
          case rel => exact ⟨j + 1, by omega, by go_num, Hbx.out.trans (E3.out.mono Hbx.out.size)⟩
          case measure => simp [intOf]; omega
        · obtain rfl : j = sl.length := by omega
          have Hwr := hide hwi
          clear hwi
          go_wp2
          go_roundw
          case rel => exact ⟨i + 1, by omega, by go_num, Hwr.out⟩
          case measure => simp [intOf]; omega
    · obtain rfl : i = L.length := by omega
      go_wp2_with fail
      (with_reducible refine (HK.out wr hb.out).mono ?_)
      rintro e U4 ⟨rfl, hu4⟩
      have C4 := hide (hb.out.trans (hu4.mono hb.out.size))
      clear hu4
      go_wp2
      go_ret
      exact ⟨rfl, C4.out⟩

set_option maxRecDepth 100000 in
set_option maxHeartbeats 4000000 in
theorem names_nil (k : Int) (w : World) (hT : Tab w) :
    Calls Tryd.prog 5 #[.slice none 0 0, .int .i64 k] w fun e w' => e = .returned (.bool true) ∧ Below w.heap.size w w' := by
  have h : ∀ V : World, TplsIs V none 0 [] := fun V => ⟨SlAt.nil V none (by omega), by simp⟩
  have HG : Hid (Calls Tryd.prog 8 #[.slice none 0 0] w fun e w' => e = .returned (.bool false) ∧ w = w') := great_any none 0 [] w (h w)
  have HM : Hid (∀ V, Below w.heap.size w V → Calls Tryd.prog 12 #[.slice none 0 0] V fun e w' => e = .returned (.bool true) ∧ Below V.heap.size V w') := fun V hV => tmay_any none 0 [] V (hT.below hV) (h V)
  obtain ⟨m, hml, hje⟩ := u64_idx k 1 (by omega)
  obtain rfl : m = 0 := by omega
  rw [show ((1 : Nat) : Int) = 1 from rfl, show ((0 : Nat) : Int) = 0 from rfl] at hje
  have HK := hide fun V (hV : Below w.heap.size w V) => known_any V (hT.below hV)
  have HM0 := hide (HM.out w (Below.refl _ _))
  clear h hT hml
  go_enter Tryd.func5, Tryd.ntmps5
  go_wp2_with fail
  (with_reducible refine HG.out.mono ?_)
  rintro e U ⟨rfl, rfl⟩
  go_wp2_with fail
  (with_reducible refine HM0.out.mono ?_)
  rintro e U1 ⟨rfl, hu1⟩
  have C1 := hide hu1
  clear hu1
  go_wp2_with fail
  clear hje
  (with_reducible refine (HM.out U1 C1.out).mono ?_)
  rintro e U2 ⟨rfl, hu2⟩
  have C2 := hide (C1.out.trans (hu2.mono C1.out.size))
  clear hu2
  go_wp2
  go_loopw [36] (fun vi wr => vi = .int .i64 0 ∧ Hid (Below w.heap.size w wr)) (fun _ _ => 0)
  case atStart => exact ⟨rfl, C2.out⟩
  case round =>
    obtain ⟨rfl, hb⟩ := hrel
    go_wp2_with fail
    (with_reducible refine (HK.out wr hb.out).mono ?_)
    rintro e U4 ⟨rfl, hu4⟩
    have C4 := hide (hb.out.trans (hu4.mono hb.out.size))
    clear hu4
    go_wp2
    go_ret
    exact ⟨rfl, C4.out⟩

theorem names_walk (a : Option Addr) (c : Nat) (L : List Tpl) (k : Int) (w : World) (hT : Tab w)
    (h : TplsIs w a c L) (hnil : a = none → L.length = 0 ∧ c = 0) :
    Calls Tryd.prog 5 #[.slice a L.length c, .int .i64 k] w fun e w' => e = .returned (.bool true) ∧ Below w.heap.size w w' := by
  by_cases hok : greatB L = false ∧ tmayB L = true
  · cases a with
    | none =>
      obtain ⟨h1, h2⟩ := hnil rfl
      rw [h1, h2]
      exact names_nil k w hT
    | some a => exact names_mid a c L k w hT h hok.1 hok.2
  · have HG := hide (great_any a c L w h)
    have HM := hide (tmay_any a c L w hT h)
    have HK := hide fun V (hV : Below w.heap.size w V) => known_any V (hT.below hV)
    have HK0 := hide (HK.out w (Below.refl _ _))
    obtain ⟨q, hq⟩ : ∃ q, greatB L = q := ⟨_, rfl⟩
    obtain ⟨q2, hq2⟩ : ∃ q, tmayB L = q := ⟨_, rfl⟩
    rw [hq] at HG hok
    rw [hq2] at HM hok
    clear h hT hnil hq hq2
    cases q
    · cases q2
      · clear hok
        go_enter Tryd.func5, Tryd.ntmps5
        go_wp2_with fail
        (with_reducible refine HG.out.mono ?_)
        rintro e U ⟨rfl, rfl⟩
        go_wp2_with fail
        (with_reducible refine HM.out.mono ?_)
        rintro e U1 ⟨rfl, hu1⟩
        have C1 := hide hu1
        clear hu1
        go_wp2_with fail
        (with_reducible refine (HK.out U1 C1.out).mono ?_)
        rintro e U2 ⟨rfl, hu2⟩
        have C2 := hide (C1.out.trans (hu2.mono C1.out.size))
        clear hu2
        go_wp2
        go_ret
        exact ⟨rfl, C2.out⟩
      · exact absurd ⟨rfl, rfl⟩ hok
    · clear hok
      go_enter Tryd.func5, Tryd.ntmps5
      go_wp2_with fail
      (with_reducible refine HG.out.mono ?_)
      rintro e U ⟨rfl, rfl⟩
      go_wp2_with fail
      (with_reducible refine HK0.out.mono ?_)
      rintro e U1 ⟨rfl, hu1⟩
      go_wp2
      go_ret
      exact ⟨rfl, hu1⟩
end Go.Proofs.YteealadflekffaaDoor
