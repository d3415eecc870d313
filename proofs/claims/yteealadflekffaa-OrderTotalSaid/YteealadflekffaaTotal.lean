/- The walk of witanlaw26.OrderTotal. -/
import Derived.Test.YteealadflekffaaKnown26
import Derived.Test.YteealadflekffaaLaw26
import Derived.Test.YteealadflekffaaGreat
import Derived.Test.YteealadflekffaaArgsA
import Derived.Deep.CutRange
import Derived.Deep.RegionHeld3
namespace Go.Proofs.Yteealadflekffaa
open Go Go.RowKit Go.MapKept Go.Sort Go.Shelf

set_option maxRecDepth 100000 in
set_option maxHeartbeats 2000000 in
theorem total_walk (s : Int) (va vb vc : Value) (w : World) (ra : Int) (aa : Option Addr) (na ca : Nat) (sa : Int) (rb : Int) (ab : Option Addr) (nb cb : Nat) (sb : Int) (rc : Int) (ac : Option Addr) (nc cc : Nat) (sc : Int)
    (ha : ActIs w va ra aa na ca sa) (hb : ActIs w vb rb ab nb cb sb) (hc : ActIs w vc rc ac nc cc sc) :
    Calls Try.prog 5 #[.int .u8 s, va, vb, vc] w fun e w' => e = .returned (.bool true) ∧ Below w.heap.size w w' := by
  obtain ⟨rfl, hna, hxa⟩ := ha
  obtain ⟨rfl, hnb, hxb⟩ := hb
  obtain ⟨rfl, hnc, hxc⟩ := hc
  have Hxa := hide hxa
  have Hxb := hide hxb
  have Hxc := hide hxc
  clear hxa hxb hxc
  obtain ⟨W, hW, h1, h2, h3, h4, hsz, hbW⟩ := heap4 w (Obj.cells #[.int .i64 ra, .slice aa na ca, .int .i64 sa] 44) (Obj.cells #[.int .i64 rb, .slice ab nb cb, .int .i64 sb] 44) (Obj.cells #[.int .i64 rc, .slice ac nc cc, .int .i64 sc] 44)
    (Obj.cells #[.int .i64 ra, .slice aa na ca, .int .i64 sa, .int .i64 rb, .slice ab nb cb, .int .i64 sb, .int .i64 rc, .slice ac nc cc, .int .i64 sc] 44)
  have Hgreat := hide (great_any (w.heap.size + 1 + 1 + 1) 0 3 [(aa, na, ca), (ab, nb, cb), (ac, nc, cc)] 3 W (by simp) (fun i hi => by
    match i, hi with
    | 0, _ => exact cellAt (i := 1) h4 rfl
    | 1, _ => exact cellAt (i := 4) h4 rfl
    | 2, _ => exact cellAt (i := 7) h4 rfl))
  have HW := hide hW
  have H1 := hide h1
  have H2 := hide h2
  have H3 := hide h3
  have BW := hide hbW
  clear hW h1 h2 h3 h4 hbW
  go_enter Try.func5, Try.ntmps5
  go_wp2_with fail
  rw [HW.out]
  refine Hgreat.out.mono ?_
  rintro e w' ⟨rfl, hw⟩
  rw [hw]
  clear hw
  by_cases hbig : 20 < na ∨ 20 < nb ∨ 20 < nc
  · have hg : great (List.map (fun x : Option Addr × Nat × Nat => x.2.1) [(aa, na, ca), (ab, nb, cb), (ac, nc, cc)]) 3 = true := by
      unfold great
      simp only [List.map_cons, List.map_nil, List.any_cons, List.any_nil, Bool.or_false, Bool.or_eq_true, decide_eq_true_eq]
      omega
    rw [hg]
    clear hg
    go_wp2_with (go_at_call 17; refine (known_walk _).mono ?_; rintro e w' ⟨rfl, hk⟩)
    go_ret
    exact ⟨rfl, BW.out.trans (hk.mono (by omega))⟩
  have hg : great (List.map (fun x : Option Addr × Nat × Nat => x.2.1) [(aa, na, ca), (ab, nb, cb), (ac, nc, cc)]) 3 = false := by
    unfold great
    simp
    omega
  rw [hg]
  clear hg Hgreat
  obtain ⟨l, hl, hxa⟩ := Hxa.out (by omega)
  obtain ⟨m, hm, hxb⟩ := Hxb.out (by omega)
  obtain ⟨k, hk, hxc⟩ := Hxc.out (by omega)
  have HA := hide (hxa.below BW.out)
  have HB := hide (hxb.below BW.out)
  have HC := hide (hxc.below BW.out)
  clear hxa hxb hxc Hxa Hxb Hxc
  have a0 : W.cell? ⟨w.heap.size, 0, none⟩ = some (.int .i64 ra) := cellAt (i := 0) H1.out rfl
  have a1 : W.cell? ⟨w.heap.size, 1, none⟩ = some (.slice aa na ca) := cellAt (i := 1) H1.out rfl
  have a2 : W.cell? ⟨w.heap.size, 2, none⟩ = some (.int .i64 sa) := cellAt (i := 2) H1.out rfl
  have b0 : W.cell? ⟨w.heap.size + 1, 0, none⟩ = some (.int .i64 rb) := cellAt (i := 0) H2.out rfl
  have b1 : W.cell? ⟨w.heap.size + 1, 1, none⟩ = some (.slice ab nb cb) := cellAt (i := 1) H2.out rfl
  have b2 : W.cell? ⟨w.heap.size + 1, 2, none⟩ = some (.int .i64 sb) := cellAt (i := 2) H2.out rfl
  have c0 : W.cell? ⟨w.heap.size + 1 + 1, 0, none⟩ = some (.int .i64 rc) := cellAt (i := 0) H3.out rfl
  have c1 : W.cell? ⟨w.heap.size + 1 + 1, 1, none⟩ = some (.slice ac nc cc) := cellAt (i := 1) H3.out rfl
  have c2 : W.cell? ⟨w.heap.size + 1 + 1, 2, none⟩ = some (.int .i64 sc) := cellAt (i := 2) H3.out rfl
  have Cells : Hid (∀ W', Below W.heap.size W W' → RowKit.Below W.heap.size W W' ∧ W'.cell? ⟨w.heap.size, 0, none⟩ = some (.int .i64 ra) ∧ W'.cell? ⟨w.heap.size, 1, none⟩ = some (.slice aa na ca) ∧ W'.cell? ⟨w.heap.size, 2, none⟩ = some (.int .i64 sa) ∧ W'.cell? ⟨w.heap.size + 1, 0, none⟩ = some (.int .i64 rb) ∧ W'.cell? ⟨w.heap.size + 1, 1, none⟩ = some (.slice ab nb cb) ∧ W'.cell? ⟨w.heap.size + 1, 2, none⟩ = some (.int .i64 sb) ∧ W'.cell? ⟨w.heap.size + 1 + 1, 0, none⟩ = some (.int .i64 rc) ∧ W'.cell? ⟨w.heap.size + 1 + 1, 1, none⟩ = some (.slice ac nc cc) ∧ W'.cell? ⟨w.heap.size + 1 + 1, 2, none⟩ = some (.int .i64 sc)) := fun W' hb => ⟨hb, (hb.cell (p := ⟨w.heap.size, 0, none⟩) (by simp only; omega)).trans a0, (hb.cell (p := ⟨w.heap.size, 1, none⟩) (by simp only; omega)).trans a1, (hb.cell (p := ⟨w.heap.size, 2, none⟩) (by simp only; omega)).trans a2, (hb.cell (p := ⟨w.heap.size + 1, 0, none⟩) (by simp only; omega)).trans b0, (hb.cell (p := ⟨w.heap.size + 1, 1, none⟩) (by simp only; omega)).trans b1, (hb.cell (p := ⟨w.heap.size + 1, 2, none⟩) (by simp only; omega)).trans b2, (hb.cell (p := ⟨w.heap.size + 1 + 1, 0, none⟩) (by simp only; omega)).trans c0, (hb.cell (p := ⟨w.heap.size + 1 + 1, 1, none⟩) (by simp only; omega)).trans c1, (hb.cell (p := ⟨w.heap.size + 1 + 1, 2, none⟩) (by simp only; omega)).trans c2⟩
  obtain ⟨A, hA⟩ : ∃ A : Ac, A = ⟨ra, l, sa, .slice aa na ca⟩ := ⟨_, rfl⟩
  obtain ⟨B, hB⟩ : ∃ B : Ac, B = ⟨rb, m, sb, .slice ab nb cb⟩ := ⟨_, rfl⟩
  obtain ⟨C, hC⟩ : ∃ C : Ac, C = ⟨rc, k, sc, .slice ac nc cc⟩ := ⟨_, rfl⟩
  have hcmp : ∀ X Y : Ac, NIs W X.x X.tup → NIs W Y.x Y.tup → ∀ W', Below W.heap.size W W' → Calls Try.prog 20 #[.int .u8 s, X.val, Y.val] W' fun e w' => e = .returned (.int .i64 (cmpA s X Y)) ∧ Below W.heap.size W w' := fun X Y hX hY W' hb =>
    (compare_any s X Y W' (hX.below hb) (hY.below hb)).mono fun e w' ⟨h1, h2⟩ => ⟨h1, hb.trans (h2.mono hb.size)⟩
  have NA : NIs W A.x A.tup := by rw [hA]; exact HA.out
  have NB : NIs W B.x B.tup := by rw [hB]; exact HB.out
  have NC : NIs W C.x C.tup := by rw [hC]; exact HC.out
  have hab := hcmp A B NA NB
  have hbc := hcmp B C NB NC
  have hac := hcmp A C NA NC
  have hba := hcmp B A NB NA
  have hsame : ∀ W', Below W.heap.size W W' → Calls Try.prog 21 #[A.val, B.val] W' fun e w' => e = .returned (.bool (decide (A.rule = B.rule ∧ A.tup = B.tup))) ∧ Below W.heap.size W w' := fun W' hb =>
    (same_act A B W' (NA.below hb) (NB.below hb)).mono fun e w' ⟨h1, h2⟩ => ⟨h1, hb.trans (h2.mono hb.size)⟩
  have hanti := (cmp_act s).anti A B
  rw [hanti] at hba
  have htr := (cmp_act s).trans A B C
  have htr2 := (cmp_act s).trans C B A
  rw [(cmp_act s).anti B C, (cmp_act s).anti A B, (cmp_act s).anti A C] at htr2
  have hzero := cmpA_zero s A B
  have hsal := cmpA_sal s A B
  have hrx := cmpA_range s A B
  have hry := cmpA_range s B C
  have hrz := cmpA_range s A C
  obtain ⟨x, hx⟩ : ∃ x, cmpA s A B = x := ⟨_, rfl⟩
  obtain ⟨y, hy⟩ : ∃ y, cmpA s B C = y := ⟨_, rfl⟩
  obtain ⟨z, hz⟩ : ∃ z, cmpA s A C = z := ⟨_, rfl⟩
  rw [hx] at hab hba htr htr2 hzero hsal hrx
  rw [hy] at hbc htr htr2 hry
  rw [hz] at hac htr htr2 hrz
  rw [hA, hB] at hab hba hsame hzero hsal
  rw [hB, hC] at hbc
  rw [hA, hC] at hac
  clear hanti hx hy hz hcmp NA NB NC
  simp only [Ac.val] at hab hba hbc hac hsame
  have Hab := hide hab; have Hbc := hide hbc; have Hac := hide hac; have Hba := hide hba; have Hsame := hide hsame; have Htr := hide htr; have Htr2 := hide htr2; have Hzero := hide hzero; have Hsal := hide hsal
  clear hab hbc hac hba hsame htr htr2 hzero hsal hA hB hC
  have B0 : Hid (RowKit.Below W.heap.size W W.drew) := (Only.drew (Only.refl [] W)).below
  go_upto_region 3 with fail
  go_cut [9, 10, 11] from 18 to 29 (fun s9 s10 s11 wx => s9 = .int .i64 x ∧ s10 = .int .i64 y ∧ s11 = .int .i64 z ∧ Hid (RowKit.Below W.heap.size W wx))
  case first =>
    obtain ⟨d0, d1, d2, d3, d4, d5, d6, d7, d8, d9⟩ := Cells.out _ B0.out
    go_region_held3 (fun V => RowKit.Below W.heap.size W V ∧ V.cell? ⟨w.heap.size, 0, none⟩ = some (.int .i64 ra) ∧ V.cell? ⟨w.heap.size, 1, none⟩ = some (.slice aa na ca) ∧ V.cell? ⟨w.heap.size, 2, none⟩ = some (.int .i64 sa) ∧ V.cell? ⟨w.heap.size + 1, 0, none⟩ = some (.int .i64 rb) ∧ V.cell? ⟨w.heap.size + 1, 1, none⟩ = some (.slice ab nb cb) ∧ V.cell? ⟨w.heap.size + 1, 2, none⟩ = some (.int .i64 sb) ∧ V.cell? ⟨w.heap.size + 1 + 1, 0, none⟩ = some (.int .i64 rc) ∧ V.cell? ⟨w.heap.size + 1 + 1, 1, none⟩ = some (.slice ac nc cc) ∧ V.cell? ⟨w.heap.size + 1 + 1, 2, none⟩ = some (.int .i64 sc)) (((repeat' apply And.intro) <;> first | exact B0.out | assumption | exact RowKit.Below.drew (by assumption) | go_keep))
      (first
        | (go_at_call 20; have hq := Hab.out _ (‹RowKit.Below W.heap.size W _ ∧ _›).1; with_reducible refine Calls.mono hq ?_; clear hq; rintro e V ⟨rfl, hbV⟩; obtain ⟨z0, z1, z2, z3, z4, z5, z6, z7, z8, z9⟩ := Cells.out V hbV; clear hbV)
        | (go_at_call 20; have hq := Hbc.out _ (‹RowKit.Below W.heap.size W _ ∧ _›).1; with_reducible refine Calls.mono hq ?_; clear hq; rintro e V ⟨rfl, hbV⟩; obtain ⟨z0, z1, z2, z3, z4, z5, z6, z7, z8, z9⟩ := Cells.out V hbV; clear hbV)
        | (go_at_call 20; have hq := Hac.out _ (‹RowKit.Below W.heap.size W _ ∧ _›).1; with_reducible refine Calls.mono hq ?_; clear hq; rintro e V ⟨rfl, hbV⟩; obtain ⟨z0, z1, z2, z3, z4, z5, z6, z7, z8, z9⟩ := Cells.out V hbV; clear hbV))
    have hz0 := hide z0
    clear z0 z1 z2 z3 z4 z5 z6 z7 z8 z9
    go_wp2
    go_meet
    case rel => exact ⟨rfl, rfl, rfl, hz0.out⟩
  case rest =>
    obtain ⟨rfl, rfl, rfl, hbx⟩ := hcut
    clear B0 Hab Hbc Hac a0 a1 a2 b0 b1 b2 c0 c1 c2 hrz hry
    obtain ⟨sm, hsm⟩ : ∃ sm, decide (ra = rb ∧ l = m) = sm := ⟨_, rfl⟩
    rw [hsm] at Hsame
    have hzero : x = 0 → sm = true ∧ sa = sb := fun h => by
      obtain ⟨h1, h2, h3⟩ := Hzero.out.1 h
      rw [← hsm]
      exact ⟨decide_eq_true ⟨h1, h2⟩, h3⟩
    have hzero2 : sm = true → sa = sb → x = 0 := fun h1 h2 => by
      rw [← hsm] at h1
      have := of_decide_eq_true h1
      exact Hzero.out.2 ⟨this.1, this.2, h2⟩
    have hsal : sb < sa → x = -1 := Hsal.out
    have HZ := hide hzero
    have HZ2 := hide hzero2
    have HSAL := hide hsal
    clear hzero hzero2 hsal hsm Hzero Hsal
    rcases (by omega : x = -1 ∨ x = 0 ∨ x = 1) with rfl | rfl | rfl
    · have hz : y ≤ 0 → z ≤ 0 := fun h => Htr.out (by omega) h
      have HZZ := hide hz
      clear hz Htr Htr2
      obtain ⟨d0, d1, d2, d3, d4, d5, d6, d7, d8, d9⟩ := Cells.out _ hbx.out
      go_wp2_with fail
      refine (Hba.out _ hbx.out).mono ?_
      rintro e V ⟨rfl, hbV⟩
      clear d0 d1 d2 d3 d4 d5 d6 d7 d8 d9
      obtain ⟨d0, d1, d2, d3, d4, d5, d6, d7, d8, d9⟩ := Cells.out _ hbV
      go_wp2_with fail
      refine (Hsame.out _ hbV).mono ?_
      rintro e V2 ⟨rfl, hbV2⟩
      clear d0 d1 d2 d3 d4 d5 d6 d7 d8 d9
      obtain ⟨d0, d1, d2, d3, d4, d5, d6, d7, d8, d9⟩ := Cells.out _ hbV2
      have HB2 := hide hbV2
      clear hbV hbV2 hbx d0
      rcases (by omega : y ≤ 0 ∨ 0 < y) with hy | hy
      · have hz := HZZ.out hy
        cases sm
        · by_cases hle : sa ≤ sb
          · go_wp2_with (go_at_call 17; refine (known_walk _).mono ?_; rintro e w' ⟨rfl, hk⟩)
            go_ret
            exact ⟨rfl, BW.out.trans ((HB2.out.trans (hk.mono HB2.out.size)).mono (by omega))⟩
          · go_wp2_with (go_at_call 17; refine (known_walk _).mono ?_; rintro e w' ⟨rfl, hk⟩)
            go_ret
            exact ⟨rfl, BW.out.trans ((HB2.out.trans (hk.mono HB2.out.size)).mono (by omega))⟩
        · have hse : (sa == sb) = false := by rw [beq_eq_false_iff_ne]; intro h; exact absurd (HZ2.out rfl h) (by omega)
          by_cases hle : sa ≤ sb
          · go_wp2_with (go_at_call 17; refine (known_walk _).mono ?_; rintro e w' ⟨rfl, hk⟩)
            go_ret
            exact ⟨rfl, BW.out.trans ((HB2.out.trans (hk.mono HB2.out.size)).mono (by omega))⟩
          · go_wp2_with (go_at_call 17; refine (known_walk _).mono ?_; rintro e w' ⟨rfl, hk⟩)
            go_ret
            exact ⟨rfl, BW.out.trans ((HB2.out.trans (hk.mono HB2.out.size)).mono (by omega))⟩
      · cases sm
        · by_cases hle : sa ≤ sb
          · go_wp2_with (go_at_call 17; refine (known_walk _).mono ?_; rintro e w' ⟨rfl, hk⟩)
            go_ret
            exact ⟨rfl, BW.out.trans ((HB2.out.trans (hk.mono HB2.out.size)).mono (by omega))⟩
          · go_wp2_with (go_at_call 17; refine (known_walk _).mono ?_; rintro e w' ⟨rfl, hk⟩)
            go_ret
            exact ⟨rfl, BW.out.trans ((HB2.out.trans (hk.mono HB2.out.size)).mono (by omega))⟩
        · have hse : (sa == sb) = false := by rw [beq_eq_false_iff_ne]; intro h; exact absurd (HZ2.out rfl h) (by omega)
          by_cases hle : sa ≤ sb
          · go_wp2_with (go_at_call 17; refine (known_walk _).mono ?_; rintro e w' ⟨rfl, hk⟩)
            go_ret
            exact ⟨rfl, BW.out.trans ((HB2.out.trans (hk.mono HB2.out.size)).mono (by omega))⟩
          · go_wp2_with (go_at_call 17; refine (known_walk _).mono ?_; rintro e w' ⟨rfl, hk⟩)
            go_ret
            exact ⟨rfl, BW.out.trans ((HB2.out.trans (hk.mono HB2.out.size)).mono (by omega))⟩
    · obtain ⟨rfl, rfl⟩ := HZ.out rfl
      obtain ⟨d0, d1, d2, d3, d4, d5, d6, d7, d8, d9⟩ := Cells.out _ hbx.out
      go_wp2_with fail
      refine (Hba.out _ hbx.out).mono ?_
      rintro e V ⟨rfl, hbV⟩
      clear d0 d1 d2 d3 d4 d5 d6 d7 d8 d9
      obtain ⟨d0, d1, d2, d3, d4, d5, d6, d7, d8, d9⟩ := Cells.out _ hbV
      go_wp2_with fail
      refine (Hsame.out _ hbV).mono ?_
      rintro e V2 ⟨rfl, hbV2⟩
      clear d0 d1 d2 d3 d4 d5 d6 d7 d8 d9
      obtain ⟨d0, d1, d2, d3, d4, d5, d6, d7, d8, d9⟩ := Cells.out _ hbV2
      have HB2 := hide hbV2
      clear hbV hbV2 hbx d0
      rcases (by omega : y < 0 ∨ y = 0 ∨ 0 < y) with hy | rfl | hy
      · have hz : z ≤ 0 := Htr.out (by omega) (by omega)
        go_wp2_with (go_at_call 17; refine (known_walk _).mono ?_; rintro e w' ⟨rfl, hk⟩)
        go_ret
        exact ⟨rfl, BW.out.trans ((HB2.out.trans (hk.mono HB2.out.size)).mono (by omega))⟩
      · have hz : z ≤ 0 := Htr.out (by omega) (by omega)
        have hz2 : 0 ≤ z := by have := Htr2.out (by omega) (by omega); omega
        go_wp2_with (go_at_call 17; refine (known_walk _).mono ?_; rintro e w' ⟨rfl, hk⟩)
        go_ret
        exact ⟨rfl, BW.out.trans ((HB2.out.trans (hk.mono HB2.out.size)).mono (by omega))⟩
      · have hz2 : 0 ≤ z := by have := Htr2.out (by omega) (by omega); omega
        go_wp2_with (go_at_call 17; refine (known_walk _).mono ?_; rintro e w' ⟨rfl, hk⟩)
        go_ret
        exact ⟨rfl, BW.out.trans ((HB2.out.trans (hk.mono HB2.out.size)).mono (by omega))⟩
    · have hle : sa ≤ sb := by rcases (by omega : sb < sa ∨ sa ≤ sb) with h | h; exact absurd (HSAL.out h) (by omega); exact h
      have hz : 0 ≤ y → 0 ≤ z := fun h => by have := Htr2.out (by omega) (by omega); omega
      have HZZ := hide hz
      clear hz Htr Htr2
      obtain ⟨d0, d1, d2, d3, d4, d5, d6, d7, d8, d9⟩ := Cells.out _ hbx.out
      go_wp2_with fail
      refine (Hba.out _ hbx.out).mono ?_
      rintro e V ⟨rfl, hbV⟩
      clear d0 d1 d2 d3 d4 d5 d6 d7 d8 d9
      obtain ⟨d0, d1, d2, d3, d4, d5, d6, d7, d8, d9⟩ := Cells.out _ hbV
      go_wp2_with fail
      refine (Hsame.out _ hbV).mono ?_
      rintro e V2 ⟨rfl, hbV2⟩
      clear d0 d1 d2 d3 d4 d5 d6 d7 d8 d9
      obtain ⟨d0, d1, d2, d3, d4, d5, d6, d7, d8, d9⟩ := Cells.out _ hbV2
      have HB2 := hide hbV2
      clear hbV hbV2 hbx d0
      rcases (by omega : 0 ≤ y ∨ y < 0) with hy | hy
      · have hz := HZZ.out hy
        cases sm
        · go_wp2_with (go_at_call 17; refine (known_walk _).mono ?_; rintro e w' ⟨rfl, hk⟩)
          go_ret
          exact ⟨rfl, BW.out.trans ((HB2.out.trans (hk.mono HB2.out.size)).mono (by omega))⟩
        · have hse : (sa == sb) = false := by rw [beq_eq_false_iff_ne]; intro h; exact absurd (HZ2.out rfl h) (by omega)
          go_wp2_with (go_at_call 17; refine (known_walk _).mono ?_; rintro e w' ⟨rfl, hk⟩)
          go_ret
          exact ⟨rfl, BW.out.trans ((HB2.out.trans (hk.mono HB2.out.size)).mono (by omega))⟩
      · cases sm
        · go_wp2_with (go_at_call 17; refine (known_walk _).mono ?_; rintro e w' ⟨rfl, hk⟩)
          go_ret
          exact ⟨rfl, BW.out.trans ((HB2.out.trans (hk.mono HB2.out.size)).mono (by omega))⟩
        · have hse : (sa == sb) = false := by rw [beq_eq_false_iff_ne]; intro h; exact absurd (HZ2.out rfl h) (by omega)
          go_wp2_with (go_at_call 17; refine (known_walk _).mono ?_; rintro e w' ⟨rfl, hk⟩)
          go_ret
          exact ⟨rfl, BW.out.trans ((HB2.out.trans (hk.mono HB2.out.size)).mono (by omega))⟩
end Go.Proofs.Yteealadflekffaa
