/- The contract of witanref27's Change. -/
import Derived.Test.YtelgajgghgknnaaRAg5
import Derived.Test.YtelgajgghgknnaaPlaysLaw
namespace Go.Proofs.Ytelgajgghgknnaa
open Go Go.RowKit Go.MapKept Go.Sort

theorem ref_setL {w0 V : World} {b : Nat} {s : Int} {vL vF v2 : Value} {L F L2 : List Ac} (h : RefIs w0 V b s vL vF L F) (hr : V.ownsRow w0.heap.size 27 3 v2 L2.length (aflat L2)) (hl : L2.length ≤ 100000) (ht : ∀ a ∈ L2, NIs w0 a.x a.tup) :
    RefIs w0 (V.setCell ⟨b, 1, none⟩ v2) b s v2 vF L2 F ∧ Only [b] V (V.setCell ⟨b, 1, none⟩ v2) := by
  have ho : Only [b] V (V.setCell ⟨b, 1, none⟩ v2) := (Only.refl [b] V).setCell (.inl (by simp)) v2
  have hk : ∀ {B n : Nat} {v : Value} {xs : List Value}, V.ownsRow B 27 3 v n xs → (V.setCell ⟨b, 1, none⟩ v2).ownsRow B 27 3 v n xs := fun hr => owns_only hr ho (fun k hk hm => by
    simp only [List.mem_singleton] at hm
    subst hm
    exact owns_not hr h.blk (by decide) hk)
  exact ⟨⟨by rw [setCell_heap h.blk]; rfl, h.hb, h.below.setCell h.hb _, hl, h.lenF, hk hr, hk h.rowF, ht, h.tupF⟩, ho⟩
theorem ref_setF {w0 V : World} {b : Nat} {s : Int} {vL vF v2 : Value} {L F F2 : List Ac} (h : RefIs w0 V b s vL vF L F) (hr : V.ownsRow w0.heap.size 27 3 v2 F2.length (aflat F2)) (hl : F2.length ≤ 100000) (ht : ∀ a ∈ F2, NIs w0 a.x a.tup) :
    RefIs w0 (V.setCell ⟨b, 2, none⟩ v2) b s vL v2 L F2 ∧ Only [b] V (V.setCell ⟨b, 2, none⟩ v2) := by
  have ho : Only [b] V (V.setCell ⟨b, 2, none⟩ v2) := (Only.refl [b] V).setCell (.inl (by simp)) v2
  have hk : ∀ {B n : Nat} {v : Value} {xs : List Value}, V.ownsRow B 27 3 v n xs → (V.setCell ⟨b, 2, none⟩ v2).ownsRow B 27 3 v n xs := fun hr => owns_only hr ho (fun k hk hm => by
    simp only [List.mem_singleton] at hm
    subst hm
    exact owns_not hr h.blk (by decide) hk)
  exact ⟨⟨by rw [setCell_heap h.blk]; rfl, h.hb, h.below.setCell h.hb _, h.lenL, hl, hk h.rowL, hk hr, h.tupL, ht⟩, ho⟩
theorem ref_come {w0 U V : World} {b : Nat} {s : Int} {vL vF v2 : Value} {L F : List Ac} {x : Ac} (h : RefIs w0 U b s vL vF L F) (hb : Below U.heap.size U V) (hl : L.length < 100000) (hx : NIs w0 x.x x.tup)
    (hown : V.ownsRow U.heap.size 27 3 v2 (L.length + 1) (aflat L ++ [.int .i64 x.rule, x.x, .int .i64 x.sal])) :
    RefIs w0 (V.setCell ⟨b, 1, none⟩ v2) b s v2 vF (L ++ [x]) F ∧ Only [b] U (V.setCell ⟨b, 1, none⟩ v2) := by
  have hV := h.to hb
  have h1 := ref_setL (L2 := L ++ [x]) (v2 := v2) hV (by rw [List.length_append, aflat_append]; exact owns_base hown h.below.size) (by simp; omega) (fun a ha => by
    rcases List.mem_append.1 ha with ha | ha
    · exact h.tupL a ha
    · simp only [List.mem_singleton] at ha
      subst ha
      exact hx)
  exact ⟨h1.1, (Only.of_below hb _).trans h1.2⟩

theorem goneL_take {L G : List Ac} {k : Nat} (h : k < G.length) : goneL L (G.take (k + 1)) = (goneL L (G.take k)).filter fun a => !a.same G[k] := by
  unfold goneL
  rw [List.take_succ_eq_append_getElem h, List.foldl_append]
  rfl
theorem comeL_take {L C : List Ac} {k : Nat} (h : k < C.length) : comeL L (C.take (k + 1)) = if (comeL L (C.take k)).any (fun a => a.same C[k]) then comeL L (C.take k) else comeL L (C.take k) ++ [C[k]] := by
  unfold comeL
  rw [List.take_succ_eq_append_getElem h, List.foldl_append]
  rfl
theorem goneL_sub {G : List Ac} : ∀ {L : List Ac}, (goneL L G).length ≤ L.length ∧ ∀ a ∈ goneL L G, a ∈ L := by
  induction G with
  | nil => exact fun {L} => ⟨Nat.le_refl _, fun a h => h⟩
  | cons x G ih =>
    intro L
    have h := ih (L := L.filter fun a => !a.same x)
    exact ⟨Nat.le_trans h.1 (List.length_filter_le _ _), fun a ha => (List.mem_filter.1 (h.2 a ha)).1⟩
theorem comeL_length {C : List Ac} : ∀ {L : List Ac}, (comeL L C).length ≤ L.length + C.length := by
  induction C with
  | nil => exact fun {L} => Nat.le_refl _
  | cons x C ih =>
    intro L
    have h := ih (L := if L.any (fun a => a.same x) then L else L ++ [x])
    refine Nat.le_trans h ?_
    simp only [List.length_cons]
    split
    · omega
    · simp; omega

set_option maxRecDepth 100000 in
set_option maxHeartbeats 8000000 in
theorem rChange_any {w0 : World} (b : Nat) (s : Int) (vL vF : Value) (L F : List Ac) (vg vc : Value) (G C : List Ac) (w : World) (h : RefIs w0 w b s vL vF L F) (hg : ActsIs w0 vg G) (hc : ActsIs w0 vc C) (hlc : L.length + C.length < 100000) :
    Calls Try.prog 22 #[.pointer (some ⟨b, 0, none⟩), vg, vc] w fun r w' => r = .returned (.tuple #[]) ∧ (∃ vL' vF', RefIs w0 w' b s vL' vF' (comeL (goneL L G) C) (goneL F G)) ∧ Only [b] w w' := by
  obtain ⟨vga, vgc, rfl⟩ := hg.form
  obtain ⟨vca, vcc, rfl⟩ := hc.form
  have hGl := hg.len
  have hCl := hc.len
  have H := hide h
  have Hg := hide hg
  have Hc := hide hc
  have hlF := h.lenF
  obtain ⟨i0, hi, hz0, hz1, hz2⟩ := ainfo_parts
  have Hi := hide hi
  have Hz0 := hide hz0
  have Hz1 := hide hz1
  have Hz2 := hide hz2
  clear h hg hc hi hz0 hz1 hz2
  go_enter Try.func22, Try.ntmps22
  go_wp2_with fail
  go_loopw [6] (fun vi wr => ∃ k : Nat, k ≤ G.length ∧ vi = .int .i64 k ∧ Hid (∃ vk vf, RefIs w0 wr b s vk vf (goneL L (G.take k)) (goneL F (G.take k)) ∧ Only [b] w wr)) (fun vi _ => G.length - (intOf vi).toNat)
  case atStart => exact ⟨0, Nat.zero_le _, rfl, _, _, H.out, Only.refl _ _⟩
  case round =>
    obtain ⟨k, hk, rfl, hq⟩ := hrel
    by_cases hlk : k < G.length
    · obtain ⟨vk, vf, hR, hO⟩ := hq.out
      have hA := Hg.out
      obtain ⟨gb, off, cap, ya, yc, e, hx, c0, c1, c2⟩ := hA.at hlk
      injection e with e1 e2 e3
      subst e1 e3
      clear e2
      have hnis := hA.tups _ (List.getElem_mem hlk)
      have ht1 := goneL_take (L := L) hlk
      have ht2 := goneL_take (L := F) hlk
      have hs1 := goneL_sub (L := L) (G := G.take k)
      have hs2 := goneL_sub (L := F) (G := G.take k)
      obtain ⟨A, hAe⟩ : ∃ A, G[k] = A := ⟨_, rfl⟩
      rw [hAe] at hx c0 c1 c2 hnis ht1 ht2
      obtain ⟨LK, hLK⟩ : ∃ LK, goneL L (G.take k) = LK := ⟨_, rfl⟩
      obtain ⟨FK, hFK⟩ : ∃ FK, goneL F (G.take k) = FK := ⟨_, rfl⟩
      rw [hLK] at hR ht1 hs1
      rw [hFK] at hR ht2 hs2
      obtain ⟨ry, ty, sy, ay⟩ := A
      simp only at hx c0 c1 c2 hnis
      subst hx
      have hbk : w0.heap.size ≤ wr.heap.size := hR.below.size
      have Hck : Hid (∀ V, Below w0.heap.size w0 V → V.cell? ⟨gb, off + k * 3, none⟩ = some (.int .i64 ry) ∧ V.cell? ⟨gb, off + k * 3 + 1, none⟩ = some (.slice ya ty.length yc) ∧ V.cell? ⟨gb, off + k * 3 + 2, none⟩ = some (.int .i64 sy)) := hide (fun V hV =>
        ⟨(hV.cell (p := ⟨gb, off + k * 3, none⟩) (lt_of_cell c0)).trans c0, (hV.cell (p := ⟨gb, off + k * 3 + 1, none⟩) (lt_of_cell c1)).trans c1, (hV.cell (p := ⟨gb, off + k * 3 + 2, none⟩) (lt_of_cell c2)).trans c2⟩)
      obtain ⟨la, lc, rfl⟩ := hR.actsL.form
      obtain ⟨fa, fc, rfl⟩ := hR.actsF.form
      have oD : Below wr.heap.size wr wr.drew := (Only.drew (Only.refl [] wr)).below
      have hl := rless_any _ LK ⟨ry, ty, sy, .slice ya ty.length yc⟩ wr.drew (hR.actsL.below oD) (hnis.below (hR.below.trans (oD.mono hbk)))
      unfold Ac.val at hl
      have Hl := hide hl
      have HR := hide hR
      have HO := hide hO
      have Hn := hide hnis
      have Ht1 := hide ht1
      have Ht2 := hide ht2
      have Hs1 := hide hs1
      have Hs2 := hide hs2
      obtain ⟨d0, d1, d2, z1, z2⟩ := cells3f hR.blk
      have hbw : b < wr.heap.size := lt_of_heap hR.blk
      have i1 : (k : Int) < (G.length : Int) := by omega
      have i2 : (0 : Int) ≤ (k : Int) := by omega
      clear c0 c1 c2
      obtain ⟨c0, c1, c2⟩ := Hck.out wr hR.below
      clear hl hR hO hnis ht1 ht2 hs1 hs2 hA hAe hLK hFK oD hq
      have Hstep : Hid (∀ V v', Below wr.heap.size wr V → V.ownsRow wr.heap.size 27 3 v' (LK.filter fun a => !a.same ⟨ry, ty, sy, .slice ya ty.length yc⟩).length (aflat (LK.filter fun a => !a.same ⟨ry, ty, sy, .slice ya ty.length yc⟩)) → RefIs w0 (V.setCell ⟨b, 1, none⟩ v') b s v' (.slice fa FK.length fc) (LK.filter fun a => !a.same ⟨ry, ty, sy, .slice ya ty.length yc⟩) FK ∧ Only [b] wr (V.setCell ⟨b, 1, none⟩ v')) := hide (fun V v' hV hrow => by
        have h1 := ref_setL (HR.out.to hV) (owns_base hrow hbk) (Nat.le_trans (List.length_filter_le _ _) HR.out.lenL) (fun a ha => HR.out.tupL a (List.mem_filter.1 ha).1)
        exact ⟨h1.1, (Only.of_below hV _).trans h1.2⟩)
      have Hbb : Hid (∀ V, Below wr.heap.size wr V → V.cell? ⟨b, 1, none⟩ = some (.slice la LK.length lc) ∧ V.frozen? ⟨b, 1, none⟩ = false) := hide (fun V hV => by have := cells3f (HR.out.to hV).blk; exact ⟨this.2.1, this.2.2.2.1⟩)
      go_wp2_with fail
      go_region_law ((go_simp; go_at_call 39; have hqq := Hl.out; (with_reducible refine Calls.mono hqq ?_); clear hqq; rintro r V ⟨v', rfl, hrow, hbV⟩; obtain ⟨na, nc, rfl⟩ := row_form hrow; have hbV' := below_undrew hbV; obtain ⟨y0, y1⟩ := Hbb.out V hbV'; have HS := hide (Hstep.out V _ hbV' hrow); clear hrow hbV hbV'))
      all_goals
        clear y0 y1 Hl Hstep Hbb c0 c1 c2 d0 d1 d2 z1 z2
        obtain ⟨V1, hV1⟩ : ∃ V1, V.setCell ⟨b, 1, none⟩ (.slice na (LK.filter fun a => !a.same ⟨ry, ty, sy, .slice ya ty.length yc⟩).length nc) = V1 := ⟨_, rfl⟩
        rw [hV1]
        have hS := HS.out
        rw [hV1] at hS
        obtain ⟨LN, hLN⟩ : ∃ LN, (LK.filter fun a => !a.same ⟨ry, ty, sy, .slice ya ty.length yc⟩) = LN := ⟨_, rfl⟩
        have ht1 := Ht1.out
        rw [hLN] at hS ht1
        rw [← ht1] at hLN
        obtain ⟨hS1, hS2⟩ := hS
        have hbk1 : w0.heap.size ≤ V1.heap.size := hS1.below.size
        have oD : Below V1.heap.size V1 V1.drew := (Only.drew (Only.refl [] V1)).below
        have hl := rless_any _ FK ⟨ry, ty, sy, .slice ya ty.length yc⟩ V1.drew (hS1.actsF.below oD) (Hn.out.below (hS1.below.trans (oD.mono hbk1)))
        unfold Ac.val at hl
        have Hl := hide hl
        have HS1 := hide hS1
        have HS2 := hide (HO.out.trans hS2)
        have Ht1' := hide ht1
        obtain ⟨d0, d1, d2, z1, z2⟩ := cells3f hS1.blk
        have hbw1 : b < V1.heap.size := lt_of_heap hS1.blk
        obtain ⟨c0, c1, c2⟩ := Hck.out V1 hS1.below
        clear hl hS1 hS2 hLN ht1 hV1 HS oD Ht1
        have Hstep : Hid (∀ V v', Below V1.heap.size V1 V → V.ownsRow V1.heap.size 27 3 v' (FK.filter fun a => !a.same ⟨ry, ty, sy, .slice ya ty.length yc⟩).length (aflat (FK.filter fun a => !a.same ⟨ry, ty, sy, .slice ya ty.length yc⟩)) → RefIs w0 (V.setCell ⟨b, 2, none⟩ v') b s (.slice na LN.length nc) v' LN (FK.filter fun a => !a.same ⟨ry, ty, sy, .slice ya ty.length yc⟩) ∧ Only [b] V1 (V.setCell ⟨b, 2, none⟩ v')) := hide (fun V v' hV hrow => by
          have h1 := ref_setF (HS1.out.to hV) (owns_base hrow hbk1) (Nat.le_trans (List.length_filter_le _ _) HS1.out.lenF) (fun a ha => HS1.out.tupF a (List.mem_filter.1 ha).1)
          exact ⟨h1.1, (Only.of_below hV _).trans h1.2⟩)
        have Hbb : Hid (∀ V, Below V1.heap.size V1 V → V.cell? ⟨b, 2, none⟩ = some (.slice fa FK.length fc) ∧ V.frozen? ⟨b, 2, none⟩ = false) := hide (fun V hV => by have := cells3f (HS1.out.to hV).blk; exact ⟨this.2.2.1, this.2.2.2.2⟩)
        go_wp2_with fail
        go_region_law ((go_simp; go_at_call 39; have hqq := Hl.out; (with_reducible refine Calls.mono hqq ?_); clear hqq; rintro r V2 ⟨v', rfl, hrow, hbV⟩; obtain ⟨ma, mc, rfl⟩ := row_form hrow; have hbV' := below_undrew hbV; obtain ⟨y0, y1⟩ := Hbb.out V2 hbV'; have HS := hide (Hstep.out V2 _ hbV' hrow); clear hrow hbV hbV'))
        all_goals
          clear y0 y1 Hl Hstep Hbb c0 c1 c2 d0 d1 d2 z1 z2
          go_wp2
          go_roundw
          case rel => exact ⟨k + 1, by omega, by go_num, _, _, by rw [Ht1'.out, Ht2.out]; exact HS.out.1, HS2.out.trans HS.out.2⟩
          case measure => simp [intOf]; omega
    · obtain rfl : k = G.length := by omega
      have hq1 : Hid (∃ vk vf, RefIs w0 wr b s vk vf (goneL L G) (goneL F G) ∧ Only [b] w wr) := by have := hq.out; rwa [List.take_length] at this
      clear hq
      have hs1 := (goneL_sub (L := L) (G := G)).1
      obtain ⟨L1, hL1⟩ : ∃ L1, goneL L G = L1 := ⟨_, rfl⟩
      obtain ⟨F1, hF1⟩ : ∃ F1, goneL F G = F1 := ⟨_, rfl⟩
      rw [hL1, hF1] at hq1
      rw [hL1] at hs1
      have HL1 := hide hL1
      have HF1 := hide hF1
      clear hL1 hF1
      obtain ⟨wg, rfl⟩ : ∃ wg : World, wg = wr := ⟨_, rfl⟩
      go_wp2_with fail
      go_loopw [7] (fun vi wr => ∃ k : Nat, k ≤ C.length ∧ vi = .int .i64 k ∧ Hid (∃ vk vf, RefIs w0 wr b s vk vf (comeL L1 (C.take k)) F1 ∧ Only [b] w wr)) (fun vi _ => C.length - (intOf vi).toNat)
      case atStart => exact ⟨0, Nat.zero_le _, rfl, hq1.out⟩
      case round =>
        obtain ⟨k, hk, rfl, hq⟩ := hrel
        by_cases hlk2 : k < C.length
        · obtain ⟨vk, vf, hR, hO⟩ := hq.out
          have hA := Hc.out
          obtain ⟨gb, off, cap, ya, yc, e, hx, c0, c1, c2⟩ := hA.at hlk2
          injection e with e1 e2 e3
          subst e1 e3
          clear e2
          have hnis := hA.tups _ (List.getElem_mem hlk2)
          have ht1 := comeL_take (L := L1) hlk2
          have hs2 := comeL_length (L := L1) (C := C.take k)
          rw [List.length_take] at hs2
          obtain ⟨A, hAe⟩ : ∃ A, C[k] = A := ⟨_, rfl⟩
          rw [hAe] at hx c0 c1 c2 hnis ht1
          obtain ⟨LK, hLK⟩ : ∃ LK, comeL L1 (C.take k) = LK := ⟨_, rfl⟩
          rw [hLK] at hR ht1 hs2
          have hlk : LK.length < 100000 := by omega
          obtain ⟨ry, ty, sy, ay⟩ := A
          simp only at hx c0 c1 c2 hnis
          subst hx
          have hbk : w0.heap.size ≤ wr.heap.size := hR.below.size
          have Hck : Hid (∀ V, Below w0.heap.size w0 V → V.cell? ⟨gb, off + k * 3, none⟩ = some (.int .i64 ry) ∧ V.cell? ⟨gb, off + k * 3 + 1, none⟩ = some (.slice ya ty.length yc) ∧ V.cell? ⟨gb, off + k * 3 + 2, none⟩ = some (.int .i64 sy)) := hide (fun V hV =>
            ⟨(hV.cell (p := ⟨gb, off + k * 3, none⟩) (lt_of_cell c0)).trans c0, (hV.cell (p := ⟨gb, off + k * 3 + 1, none⟩) (lt_of_cell c1)).trans c1, (hV.cell (p := ⟨gb, off + k * 3 + 2, none⟩) (lt_of_cell c2)).trans c2⟩)
          obtain ⟨la, lc, rfl⟩ := hR.actsL.form
          have oD : Below wr.heap.size wr wr.drew := (Only.drew (Only.refl [] wr)).below
          have hh := rhas_any _ LK ⟨ry, ty, sy, .slice ya ty.length yc⟩ wr.drew (hR.actsL.below oD) (hnis.below (hR.below.trans (oD.mono hbk)))
          unfold Ac.val at hh
          obtain ⟨p, hp⟩ : ∃ p, (LK.any fun a => a.same ⟨ry, ty, sy, .slice ya ty.length yc⟩) = p := ⟨_, rfl⟩
          rw [hp] at hh ht1
          have Hh := hide hh
          have HR := hide hR
          have HO := hide hO
          have HX0 := hide hnis
          have Ht1 := hide ht1
          obtain ⟨d0, d1, d2, z1, z2⟩ := cells3f hR.blk
          have hbw : b < wr.heap.size := lt_of_heap hR.blk
          have i1 : (k : Int) < (C.length : Int) := by omega
          have i2 : (0 : Int) ≤ (k : Int) := by omega
          clear c0 c1 c2
          obtain ⟨c0, c1, c2⟩ := Hck.out wr hR.below
          have Hkeep : Hid (∀ V, Below wr.drew.heap.size wr.drew V → Below wr.heap.size wr V ∧ V.cell? ⟨b, 1, none⟩ = some (.slice la LK.length lc) ∧ V.cell? ⟨gb, off + k * 3, none⟩ = some (.int .i64 ry) ∧ V.cell? ⟨gb, off + k * 3 + 1, none⟩ = some (.slice ya ty.length yc) ∧ V.cell? ⟨gb, off + k * 3 + 2, none⟩ = some (.int .i64 sy)) := hide (fun V hV => by
            have hV' := below_undrew hV
            have := cells3f (HR.out.to hV').blk
            exact ⟨hV', this.2.1, Hck.out V (HR.out.below.trans (hV'.mono hbk))⟩)
          clear hh hR hO hnis ht1 hs2 hA hAe hLK oD hq hp
          go_wp2_with fail
          go_region_held3 (fun V => V.cell? ⟨b, 1, none⟩ = some (.slice la LK.length lc) ∧ V.cell? ⟨gb, off + k * 3, none⟩ = some (.int .i64 ry) ∧ V.cell? ⟨gb, off + k * 3 + 1, none⟩ = some (.slice ya ty.length yc) ∧ V.cell? ⟨gb, off + k * 3 + 2, none⟩ = some (.int .i64 sy)) (go_keep)
            ((go_at_call 40; have hqq := Hh.out; with_reducible refine Calls.mono hqq ?_; clear hqq; rintro r U ⟨rfl, hbU⟩; obtain ⟨y0, y1, y2, y3, y4⟩ := Hkeep.out U hbU; have HbU := hide y0; clear hbU y0))
          clear c0 c1 c2 d0 d1 d2 z1 z2 y1 y2 y3 y4 Hkeep Hh
          cases p
          · have hU := HR.out.to HbU.out
            obtain ⟨e0, e1, e2, z1, _⟩ := cells3f hU.blk
            have hltU : b < U.heap.size := lt_of_heap hU.blk
            have HU := hide hU
            have HrowL : Hid (∀ V, Below U.heap.size U V → V.ownsRow w0.heap.size 27 3 (.slice la LK.length lc) LK.length (aflat LK)) := hide (fun V hV => owns_below hU.rowL hV)
            have HoneL : Hid (∀ u ∈ aflat LK, u.oneCell' = true) := hide (aflat_one LK (fun a ha => by obtain ⟨q, c, e⟩ := (hU.tupL a ha).form; exact ⟨q, _, c, e⟩))
            have Hbb : Hid (∀ V, Below U.heap.size U V → V.cell? ⟨b, 1, none⟩ = some (.slice la LK.length lc) ∧ V.frozen? ⟨b, 1, none⟩ = false) := hide (fun V hV => by have := cells3f (hU.to hV).blk; exact ⟨this.2.1, this.2.2.2.1⟩)
            have Hxb : Hid (∀ V, Below U.heap.size U V → V.cell? ⟨gb, off + k * 3, none⟩ = some (.int .i64 ry) ∧ V.cell? ⟨gb, off + k * 3 + 1, none⟩ = some (.slice ya ty.length yc) ∧ V.cell? ⟨gb, off + k * 3 + 2, none⟩ = some (.int .i64 sy)) := hide (fun V hV => Hck.out V (hU.below.trans (hV.mono hU.below.size)))
            obtain ⟨c0, c1, c2⟩ := Hxb.out U (Below.refl _ _)
            have hgU : gb < U.heap.size := lt_of_cell c0
            clear hU
            have hbA : Below U.heap.size U ((U.alloc (Obj.cells #[] 27)).drew) := by first | exact (((Only.refl [] U).alloc _).drew).below | exact ((((Only.refl [] U).alloc _).alloc _).drew).below
            have heA : ((U.alloc (Obj.cells #[] 27)).drew).heap[U.heap.size]? = some (Obj.cells #[] 27) := heap_alloc0 U _
            have OwnA := hide (own_empty (B := U.heap.size) heA (by omega))
            have BelA := hide hbA
            have hbB : Below U.heap.size U (((U.alloc (Obj.cells #[] 27)).alloc (Obj.cells #[.int .i64 ry, .slice ya ty.length yc, .int .i64 sy] 27)).drew) := by first | exact (((Only.refl [] U).alloc _).drew).below | exact ((((Only.refl [] U).alloc _).alloc _).drew).below
            have heB : (((U.alloc (Obj.cells #[] 27)).alloc (Obj.cells #[.int .i64 ry, .slice ya ty.length yc, .int .i64 sy] 27)).drew).heap[U.heap.size]? = some (Obj.cells #[] 27) := heap_alloc2_old U (Obj.cells #[] 27) (Obj.cells #[.int .i64 ry, .slice ya ty.length yc, .int .i64 sy] 27)
            have hlB : (((U.alloc (Obj.cells #[] 27)).alloc (Obj.cells #[.int .i64 ry, .slice ya ty.length yc, .int .i64 sy] 27)).drew).heap[U.heap.size + 1]? = some (Obj.cells #[.int .i64 ry, .slice ya ty.length yc, .int .i64 sy] 27) := heap_alloc2_new U (Obj.cells #[] 27) (Obj.cells #[.int .i64 ry, .slice ya ty.length yc, .int .i64 sy] 27)
            have OwnB := hide (own_empty (B := U.heap.size) heB (by omega))
            have BelB := hide hbB
            have LitB := hide hlB
            have hbC : Below U.heap.size U (((U.alloc (Obj.cells #[.int .i64 ry, .slice ya ty.length yc, .int .i64 sy] 27)).alloc (Obj.cells #[] 27)).drew) := by first | exact (((Only.refl [] U).alloc _).drew).below | exact ((((Only.refl [] U).alloc _).alloc _).drew).below
            have heC : (((U.alloc (Obj.cells #[.int .i64 ry, .slice ya ty.length yc, .int .i64 sy] 27)).alloc (Obj.cells #[] 27)).drew).heap[U.heap.size + 1]? = some (Obj.cells #[] 27) := heap_alloc2_new U (Obj.cells #[.int .i64 ry, .slice ya ty.length yc, .int .i64 sy] 27) (Obj.cells #[] 27)
            have hlC : (((U.alloc (Obj.cells #[.int .i64 ry, .slice ya ty.length yc, .int .i64 sy] 27)).alloc (Obj.cells #[] 27)).drew).heap[U.heap.size]? = some (Obj.cells #[.int .i64 ry, .slice ya ty.length yc, .int .i64 sy] 27) := heap_alloc2_old U (Obj.cells #[.int .i64 ry, .slice ya ty.length yc, .int .i64 sy] 27) (Obj.cells #[] 27)
            have OwnC := hide (own_empty (B := U.heap.size) heC (by omega))
            have BelC := hide hbC
            have LitC := hide hlC
            clear hbA hbB hbC heA heB heC hlB hlC
            go_wp2_with fail
            go_region_law (first
              | (refine step_append_row rfl (.tmp 55) (.tmp 59) 22 rfl U.heap.size w0.heap.size 27 i0 (.agg #[.int .i64 0, .slice none 0 0, .int .i64 0]) 3 40 Try.underlying22 Hi.out Hz0.out Hz1.out Hz2.out rfl (by decide) (.slice (some ⟨U.heap.size, 0, none⟩) 0 0) 0 [] (by simp [Act.eval]) OwnA.out (.slice la LK.length lc) LK.length (aflat LK) (by simp [Act.eval]) (HrowL.out _ BelA.out) HoneL.out (by unfold maxLen; omega) (by omega) (by simp <;> omega) ?_; intro v1 w1 hown1 hg1; obtain ⟨⟨a1, c1, rfl⟩, hoA, hwA, hkA⟩ := fire_app1 (lit := (Obj.cells #[.int .i64 ry, .slice ya ty.length yc, .int .i64 sy] 27)) BelA.out (by omega) hown1 hg1; obtain ⟨x0, x1, x2⟩ := Hxb.out w1 hwA; obtain ⟨y0, y1⟩ := Hbb.out w1 hwA; have HOA := hide hoA; have HWA := hide hwA; have hzA : U.heap.size < w1.heap.size := Nat.lt_of_lt_of_le (by simp <;> omega) hg1.size; have HKA := hide hkA; clear hoA hwA hkA hown1 hg1)
              | (refine step_append_row rfl (.tmp 55) (.tmp 59) 22 rfl U.heap.size w0.heap.size 27 i0 (.agg #[.int .i64 0, .slice none 0 0, .int .i64 0]) 3 40 Try.underlying22 Hi.out Hz0.out Hz1.out Hz2.out rfl (by decide) (.slice (some ⟨U.heap.size, 0, none⟩) 0 0) 0 [] (by simp [Act.eval]) OwnB.out (.slice la LK.length lc) LK.length (aflat LK) (by simp [Act.eval]) (HrowL.out _ BelB.out) HoneL.out (by unfold maxLen; omega) (by omega) (by simp <;> omega) ?_; intro v1 w1 hown1 hg1; obtain ⟨⟨a1, c1, rfl⟩, hoB, hwB, hkB⟩ := fire_app1 (lit := (Obj.cells #[.int .i64 ry, .slice ya ty.length yc, .int .i64 sy] 27)) BelB.out (by omega) hown1 hg1; obtain ⟨x0, x1, x2⟩ := Hxb.out w1 hwB; obtain ⟨y0, y1⟩ := Hbb.out w1 hwB; have HOB := hide hoB; have HWB := hide hwB; have hzB : U.heap.size < w1.heap.size := Nat.lt_of_lt_of_le (by simp <;> omega) hg1.size; have HKB := hide hkB; clear hoB hwB hkB hown1 hg1)
              | (refine step_append_row rfl (.tmp 55) (.tmp 59) 22 rfl U.heap.size w0.heap.size 27 i0 (.agg #[.int .i64 0, .slice none 0 0, .int .i64 0]) 3 40 Try.underlying22 Hi.out Hz0.out Hz1.out Hz2.out rfl (by decide) (.slice (some ⟨(U.heap.size + 1), 0, none⟩) 0 0) 0 [] (by simp [Act.eval]) OwnC.out (.slice la LK.length lc) LK.length (aflat LK) (by simp [Act.eval]) (HrowL.out _ BelC.out) HoneL.out (by unfold maxLen; omega) (by omega) (by simp <;> omega) ?_; intro v1 w1 hown1 hg1; obtain ⟨⟨a1, c1, rfl⟩, hoC, hwC, hkC⟩ := fire_app1 (lit := (Obj.cells #[.int .i64 ry, .slice ya ty.length yc, .int .i64 sy] 27)) BelC.out (by omega) hown1 hg1; obtain ⟨x0, x1, x2⟩ := Hxb.out w1 hwC; obtain ⟨y0, y1⟩ := Hbb.out w1 hwC; have HOC := hide hoC; have HWC := hide hwC; have hzC : U.heap.size < w1.heap.size := Nat.lt_of_lt_of_le (by simp <;> omega) hg1.size; have HKC := hide hkC; clear hoC hwC hkC hown1 hg1)
              | (refine step_append_own rfl (.tmp 60) (.tmp 65) 22 rfl U.heap.size 27 i0 (.agg #[.int .i64 0, .slice none 0 0, .int .i64 0]) 3 40 Try.underlying22 Hi.out Hz0.out Hz1.out Hz2.out rfl (by decide) (.slice a1 LK.length c1) LK.length (aflat LK) (by simp [Act.eval]) (HOA.out.alloc _) ⟨w1.heap.size, 0, none⟩ 1 1 [.int .i64 ry, .slice ya ty.length yc, .int .i64 sy] (by simp [Act.eval]) rfl (lit_news (heap_alloc0 w1 _)) (by simp [Value.oneCell']) (by unfold maxLen; omega) (by omega) (by first | omega | (simp <;> omega)) ?_; intro v2 w2 hown2 hg2; obtain ⟨a2, c2, rfl⟩ := row_form hown2; have hw2 := fire_app2 (HWA.out.trans (((Only.refl [] w1).alloc _).below.mono (by omega))) (HOA.out.alloc _) hg2; obtain ⟨u0, u1⟩ := Hbb.out w2 hw2; have HFin := hide (ref_come (x := ⟨ry, ty, sy, .slice ya ty.length yc⟩) HU.out hw2 hlk HX0.out hown2); clear hw2 hown2 hg2)
              | (refine step_append_own rfl (.tmp 60) (.tmp 65) 22 rfl U.heap.size 27 i0 (.agg #[.int .i64 0, .slice none 0 0, .int .i64 0]) 3 40 Try.underlying22 Hi.out Hz0.out Hz1.out Hz2.out rfl (by decide) (.slice a1 LK.length c1) LK.length (aflat LK) (by simp [Act.eval]) HOB.out ⟨(U.heap.size + 1), 0, none⟩ 1 1 [.int .i64 ry, .slice ya ty.length yc, .int .i64 sy] (by simp [Act.eval]) rfl (lit_news (HKB.out _ (by first | omega | (simp <;> omega)) (by omega) LitB.out)) (by simp [Value.oneCell']) (by unfold maxLen; omega) (by omega) (by first | omega | (simp <;> omega)) ?_; intro v2 w2 hown2 hg2; obtain ⟨a2, c2, rfl⟩ := row_form hown2; have hw2 := fire_app2 HWB.out HOB.out hg2; obtain ⟨u0, u1⟩ := Hbb.out w2 hw2; have HFin := hide (ref_come (x := ⟨ry, ty, sy, .slice ya ty.length yc⟩) HU.out hw2 hlk HX0.out hown2); clear hw2 hown2 hg2)
              | (refine step_append_own rfl (.tmp 60) (.tmp 65) 22 rfl U.heap.size 27 i0 (.agg #[.int .i64 0, .slice none 0 0, .int .i64 0]) 3 40 Try.underlying22 Hi.out Hz0.out Hz1.out Hz2.out rfl (by decide) (.slice a1 LK.length c1) LK.length (aflat LK) (by simp [Act.eval]) HOC.out ⟨U.heap.size, 0, none⟩ 1 1 [.int .i64 ry, .slice ya ty.length yc, .int .i64 sy] (by simp [Act.eval]) rfl (lit_news (HKC.out _ (by first | omega | (simp <;> omega)) (by omega) LitC.out)) (by simp [Value.oneCell']) (by unfold maxLen; omega) (by omega) (by first | omega | (simp <;> omega)) ?_; intro v2 w2 hown2 hg2; obtain ⟨a2, c2, rfl⟩ := row_form hown2; have hw2 := fire_app2 HWC.out HOC.out hg2; obtain ⟨u0, u1⟩ := Hbb.out w2 hw2; have HFin := hide (ref_come (x := ⟨ry, ty, sy, .slice ya ty.length yc⟩) HU.out hw2 hlk HX0.out hown2); clear hw2 hown2 hg2))
            all_goals
              go_wp2
              go_roundw
              case rel => exact ⟨k + 1, by omega, by go_num, _, _, by rw [Ht1.out]; exact HFin.out.1, (HO.out.trans (Only.of_below HbU.out _)).trans HFin.out.2⟩
              case measure => simp [intOf]; omega
          · go_wp2
            go_roundw
            case rel => exact ⟨k + 1, by omega, by go_num, _, _, by rw [Ht1.out]; exact HR.out.to HbU.out, HO.out.trans (Only.of_below HbU.out _)⟩
            case measure => simp [intOf]; omega
        · obtain rfl : k = C.length := by omega
          have hq2 : Hid (∃ vk vf, RefIs w0 wr b s vk vf (comeL L1 C) F1 ∧ Only [b] w wr) := by have := hq.out; rwa [List.take_length] at this
          clear hq hq1
          go_wp2
          go_end0
          obtain ⟨vk, vf, h1, h2⟩ := hq2.out
          exact ⟨rfl, ⟨vk, vf, by rw [HL1.out, HF1.out]; exact h1⟩, h2⟩
end Go.Proofs.Ytelgajgghgknnaa
