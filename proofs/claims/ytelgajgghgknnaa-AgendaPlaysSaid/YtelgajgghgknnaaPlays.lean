/- The walk of witanlaw27.AgendaPlays. -/
import Derived.Test.YtelgajgghgknnaaPlaysC
import Derived.Test.YtelgajgghgknnaaArgs27
import Derived.Deep.CutRange
import Derived.Deep.CutBlock
namespace Go.Proofs.Ytelgajgghgknnaa
open Go Go.RowKit Go.MapKept Go.Sort

/-- What is small enough to be looked at. -/
def OpSmall (d : OpD) : Prop := greatD d.G 20 = false ∧ greatD d.C 20 = false ∧ greatD [d.x] 1 = false

theorem OpAt.below {w V : World} {b o : Nat} {d : OpD} (h : OpAt w b o d) (hb : Below w.heap.size w V) : OpAt V b o d :=
  have hlt := lt_of_cell h.c0
  ⟨(hb.cell (p := ⟨b, o, none⟩) hlt).trans h.c0, (hb.cell (p := ⟨b, o + 1, none⟩) hlt).trans h.c1, (hb.cell (p := ⟨b, o + 2, none⟩) hlt).trans h.c2, h.x.below hb, h.g.below hb, h.c.below hb⟩
theorem OpsD.below {w V : World} {v : Value} {l : List OpD} (h : OpsD w v l) (hb : Below w.heap.size w V) : OpsD V v l := by
  refine ⟨h.1, ?_⟩
  rcases h.2 with ⟨b, off, cap, e, hi⟩ | q
  · exact .inl ⟨b, off, cap, e, fun i hil => (hi i hil).below hb⟩
  · exact .inr q
theorem OpsD.at {w : World} {v : Value} {l : List OpD} (h : OpsD w v l) {k : Nat} (hk : k < l.length) : ∃ b off cap, v = .slice (some ⟨b, off, none⟩) l.length cap ∧ OpAt w b (off + k * 6) l[k] := by
  rcases h.2 with ⟨b, off, cap, e, hi⟩ | ⟨rfl, _⟩
  · exact ⟨b, off, cap, e, hi k hk⟩
  · simp at hk
theorem OpAt.cells {w : World} {b o : Nat} {d : OpD} (h : OpAt w b o d) : w.cell? ⟨b, o, none⟩ = some (.int .i64 d.k) ∧ w.cell? ⟨b, o + 1, none⟩ = some d.vg ∧ w.cell? ⟨b, o + 2, none⟩ = some d.vc ∧ w.cell? ⟨b, o + 3, none⟩ = some (.int .i64 d.x.r) ∧ w.cell? ⟨b, o + 4, none⟩ = some (.slice d.x.a d.x.n d.x.c) ∧ w.cell? ⟨b, o + 5, none⟩ = some (.int .i64 d.x.s) :=
  ⟨h.c0, h.c1, h.c2, h.x.1, h.x.2.1, h.x.2.2.1⟩

theorem Both.below {w0 w V : World} {b b' k : Nat} {s : Int} (h : Both w0 w b b' s k) (hb : Below w.heap.size w V) : Both w0 V b b' s k := by
  obtain ⟨v, vL, vF, le, L, F, h1⟩ := h
  exact ⟨v, vL, vF, le, L, F, h1.below hb⟩

set_option maxRecDepth 100000 in
set_option maxHeartbeats 16000000 in
theorem plays_walk (s : Int) (vl : Value) (l : List OpD) (x : ActD) (w : World) (hl : OpsD w vl l) (hxn : x.n ≤ 9223372036854775807) (hxt : x.n ≤ 1000000 → x.t.length = x.n ∧ NIs w (.slice x.a x.n x.c) x.t) :
    Calls Try.prog 6 #[.int .u8 s, vl, .agg #[.int .i64 x.r, .slice x.a x.n x.c, .int .i64 x.s]] w fun e w' => e = .returned (.bool true) ∧ Below w.heap.size w w' := by
  obtain ⟨la, lc, rfl⟩ := hl.form
  obtain ⟨xr, xa, xn, xc, xs, xt⟩ := x
  simp only at hxn hxt ⊢
  by_cases h60 : 60 < l.length
  · have h60' : (60 : Int) < (l.length : Int) := by omega
    clear hl hxt
    go_enter Try.func6, Try.ntmps6
    go_wp2_with (go_at_call 9; refine (known27_walk _).mono ?_; rintro e w' ⟨rfl, hk⟩)
    go_ret
    exact ⟨rfl, ((Below.refl _ _).alloc (Nat.le_refl _) _).trans (hk.mono (by simp))⟩
  have h60' : (l.length : Int) ≤ 60 := by omega
  obtain ⟨W0, hW0⟩ : ∃ W0, w.alloc (Obj.cells #[.int .i64 xr, .slice xa xn xc, .int .i64 xs] 27) = W0 := ⟨_, rfl⟩
  have hb0 : Below w.heap.size w W0 := by rw [← hW0]; exact ((Only.refl [] w).alloc _).below
  have hbox := box3_new w xr xs (.slice xa xn xc)
  have hz0 : W0.heap.size = w.heap.size + 1 := by rw [← hW0]; simp
  rw [hW0] at hbox
  obtain ⟨W1, hW1⟩ : ∃ W1, W0.alloc (Obj.cells #[.int .i64 xr, .slice xa xn xc, .int .i64 xs] 27) = W1 := ⟨_, rfl⟩
  have hb1 : Below W0.heap.size W0 W1 := by rw [← hW1]; exact ((Only.refl [] W0).alloc _).below
  have hbox1 := heap_alloc0 W0 (Obj.cells #[.int .i64 xr, .slice xa xn xc, .int .i64 xs] 27)
  rw [hW1] at hbox1
  have hbw1 : Below w.heap.size w W1 := hb0.trans (hb1.mono (by omega))
  have hgx := greatD_any (.slice (some ⟨W0.heap.size, 0, none⟩) 1 1) [⟨xr, xa, xn, xc, xs, xt⟩] 1 (by omega) W1 (ActAt.one hxn (fun hn => ⟨(hxt hn).1, (hxt hn).2.below hbw1⟩) hbox1)
  have Hgx := hide hgx
  have HBx := hide (Box3.below hbox hb1)
  obtain ⟨x0, x1, x2⟩ := hbox
  have HW0 := hide hW0
  have HW1 := hide hW1
  have Hl := hide hl
  have Hxt := hide hxt
  have Hbw1 := hide hbw1
  clear hW0 hW1 hl hxt hb0 hbw1 hz0 hbox1 hb1 hgx h60
  cases hg : greatD [⟨xr, xa, xn, xc, xs, xt⟩] 1 with
  | true =>
    rw [hg] at Hgx
    clear hg
    go_enter Try.func6, Try.ntmps6
    go_upto_region 1 with fail
    rw [HW0.out]
    go_wp2_with fail
    rw [HW1.out]
    refine Hgx.out.mono ?_
    rintro e w' ⟨rfl, hw⟩
    rw [hw]
    clear hw Hgx
    go_wp2_with (go_at_call 9; refine (known27_walk _).mono ?_; rintro e w' ⟨rfl, hk⟩)
    go_ret
    exact ⟨rfl, Hbw1.out.trans (hk.mono Hbw1.out.size)⟩
  | false =>
    rw [hg] at Hgx
    have hx20 : xn ≤ 20 := (greatD_false hg).2 _ (.head _)
    clear hg
    obtain ⟨hxl, hXn⟩ := Hxt.out (by omega)
    subst hxl
    have HXn := hide (hXn.below Hbw1.out)
    clear hXn Hxt
    go_enter Try.func6, Try.ntmps6
    go_upto_region 1 with fail
    rw [HW0.out]
    go_wp2_with fail
    rw [HW1.out]
    refine Hgx.out.mono ?_
    rintro e w' ⟨rfl, hw⟩
    rw [hw]
    clear hw Hgx x0 x1 x2
    go_wp2_with fail
    go_loopw [31] (fun vi wr => ∃ k : Nat, k ≤ l.length ∧ vi = .int .i64 k ∧ Hid (∀ j (h : j < l.length), j < k → OpSmall l[j]) ∧ Hid (Below W1.heap.size W1 wr)) (fun vi _ => l.length - (intOf vi).toNat)
    case atStart => exact ⟨0, Nat.zero_le _, rfl, fun j h hj => absurd hj (Nat.not_lt_zero _), Below.refl _ _⟩
    case round =>
      obtain ⟨k, hk, rfl, hsm, hb⟩ := hrel
      by_cases hlk : k < l.length
      · have hO := (Hl.out.below Hbw1.out).below hb.out
        obtain ⟨ob, off, cap, e, hat⟩ := hO.at hlk
        injection e with e1 e2 e3
        subst e1 e3
        clear e2
        have hsm1 : OpSmall l[k] → Hid (∀ j (h : j < l.length), j < k + 1 → OpSmall l[j]) := fun hq j h hj => by
          by_cases hjk : j < k
          · exact hsm.out j h hjk
          · obtain rfl : j = k := by omega
            exact hq
        obtain ⟨D, hD⟩ : ∃ D, l[k] = D := ⟨_, rfl⟩
        rw [hD] at hat hsm1
        obtain ⟨kd, vg, G, vc, C, ⟨rx, ax, nx, cx, sx, tx⟩⟩ := D
        obtain ⟨c0, c1, c2, c3, c4, c5⟩ := hat.cells
        simp only at c0 c1 c2 c3 c4 c5
        obtain ⟨ga, gc, hvg⟩ := hat.g.form
        obtain ⟨ca, cc, hvc⟩ := hat.c.form
        simp only at hvg hvc
        subst hvg hvc
        have hg1 := greatD_any _ G 20 (by omega) wr hat.g
        have hg2 := greatD_any _ C 20 (by omega) wr hat.c
        obtain ⟨Wd, hWd⟩ : ∃ Wd, wr.alloc (Obj.cells #[.int .i64 rx, .slice ax nx cx, .int .i64 sx] 27) = Wd := ⟨_, rfl⟩
        have hbd : Below wr.heap.size wr Wd := by rw [← hWd]; exact ((Only.refl [] wr).alloc _).below
        have hbxd := heap_alloc0 wr (Obj.cells #[.int .i64 rx, .slice ax nx cx, .int .i64 sx] 27)
        rw [hWd] at hbxd
        have hg3 := greatD_any (.slice (some ⟨wr.heap.size, 0, none⟩) 1 1) [⟨rx, ax, nx, cx, sx, tx⟩] 1 (by omega) Wd (ActAt.one hat.x.2.2.2.1 (fun hn => ⟨(hat.x.2.2.2.2 hn).1, (hat.x.2.2.2.2 hn).2.below hbd⟩) hbxd)
        unfold OpSmall at hsm1
        simp only at hsm1
        obtain ⟨p1, hp1⟩ : ∃ p, greatD G 20 = p := ⟨_, rfl⟩
        obtain ⟨p2, hp2⟩ : ∃ p, greatD C 20 = p := ⟨_, rfl⟩
        obtain ⟨p3, hp3⟩ : ∃ p, greatD [⟨rx, ax, nx, cx, sx, tx⟩] 1 = p := ⟨_, rfl⟩
        rw [hp1] at hg1 hsm1
        rw [hp2] at hg2 hsm1
        rw [hp3] at hg3 hsm1
        have i1 : (k : Int) < (l.length : Int) := by omega
        have i2 : (0 : Int) ≤ (k : Int) := by omega
        have Hg1 := hide hg1
        have Hg2 := hide hg2
        have Hg3 := hide hg3
        have HWd := hide hWd
        have Hsm1 := hide hsm1
        have Hbd := hide (hb.out.trans (hbd.mono hb.out.size))
        clear hO hD hat hg1 hg2 hg3 hWd hbd hbxd hp1 hp2 hp3 hsm1
        cases p1
        · go_wp2_with fail
          refine Hg1.out.mono ?_
          rintro e w' ⟨rfl, hw⟩
          rw [hw]
          clear hw Hg1
          cases p2
          · go_wp2_with fail
            refine Hg2.out.mono ?_
            rintro e w' ⟨rfl, hw⟩
            rw [hw]
            clear hw Hg2
            go_wp2_with fail
            rw [HWd.out]
            refine Hg3.out.mono ?_
            rintro e w' ⟨rfl, hw⟩
            rw [hw]
            clear hw Hg3
            cases p3
            · go_wp2
              go_roundw
              case rel => exact ⟨k + 1, by omega, by go_num, Hsm1.out (by simp), Hbd.out⟩
              case measure => simp [intOf]; omega
            · go_wp2_with (go_at_call 9; refine (known27_walk _).mono ?_; rintro e w' ⟨rfl, hk⟩)
              go_ret
              exact ⟨rfl, (Hbw1.out.trans (Hbd.out.mono Hbw1.out.size)).trans (hk.mono (Hbw1.out.trans (Hbd.out.mono Hbw1.out.size)).size)⟩
          · go_wp2_with fail
            refine Hg2.out.mono ?_
            rintro e w' ⟨rfl, hw⟩
            rw [hw]
            clear hw Hg2
            go_wp2_with (go_at_call 9; refine (known27_walk _).mono ?_; rintro e w' ⟨rfl, hk⟩)
            go_ret
            exact ⟨rfl, (Hbw1.out.trans (hb.out.mono Hbw1.out.size)).trans (hk.mono (Hbw1.out.trans (hb.out.mono Hbw1.out.size)).size)⟩
        · go_wp2_with fail
          refine Hg1.out.mono ?_
          rintro e w' ⟨rfl, hw⟩
          rw [hw]
          clear hw Hg1
          go_wp2_with (go_at_call 9; refine (known27_walk _).mono ?_; rintro e w' ⟨rfl, hk⟩)
          go_ret
          exact ⟨rfl, (Hbw1.out.trans (hb.out.mono Hbw1.out.size)).trans (hk.mono (Hbw1.out.trans (hb.out.mono Hbw1.out.size)).size)⟩
      · obtain rfl : k = l.length := by omega
        obtain ⟨w0, rfl⟩ : ∃ w0 : World, w0 = wr := ⟨_, rfl⟩
        have HSm := hsm
        have HL := hide ((Hl.out.below Hbw1.out).below hb.out)
        have HX := hide (HXn.out.below hb.out)
        have HBx0 := hide (HBx.out.below hb.out)
        have Hbw0 := hide (Hbw1.out.trans (hb.out.mono Hbw1.out.size))
        clear hsm hb Hl HXn HBx Hbw1
        have Hnew := hide (new_ag s w0)
        go_wp2_with fail
        (with_reducible refine Hnew.out.mono ?_)
        rintro e w1 ⟨rfl, hA1, hb1⟩
        have hz1 := hb1.size
        have hA2 := hA1.below ((Only.refl [] w1).alloc (Obj.cells #[.int .u8 s, .slice none 0 0, .slice none 0 0] 47)).below
        have hR2 : RefIs w0 (w1.alloc (Obj.cells #[.int .u8 s, .slice none 0 0, .slice none 0 0] 47)) w1.heap.size s (.slice none 0 0) (.slice none 0 0) [] [] :=
          ⟨heap_alloc0 w1 _, hz1, hb1.alloc hz1 _, by simp, by simp, World.ownsRow_nil _ _ _ _, World.ownsRow_nil _ _ _ _, by simp, by simp⟩
        have HB0 := hide (show Both w0 (w1.alloc (Obj.cells #[.int .u8 s, .slice none 0 0, .slice none 0 0] 47)) w0.heap.size w1.heap.size s 0 from ⟨_, _, _, _, _, _, hA2, hR2, PRel.nil, by simp, by simp, by simp⟩)
        clear hA1 hb1 hz1 hA2 hR2 Hnew
        go_wp2_with fail
        go_loopw [8, 9, 66] (fun u8 u9 vi wr => ∃ k b b' : Nat, k ≤ l.length ∧ u8 = .pointer (some ⟨b, 0, none⟩) ∧ u9 = .pointer (some ⟨b', 0, none⟩) ∧ vi = .int .i64 k ∧ Hid (Both w0 wr b b' s k)) (fun _ _ vi _ => l.length - (intOf vi).toNat)
        case atStart => exact ⟨0, _, _, Nat.zero_le _, rfl, rfl, rfl, HB0.out⟩
        case round =>
          obtain ⟨k, b, b', hk, rfl, rfl, rfl, hq⟩ := hrel
          by_cases hlk : k < l.length
          · obtain ⟨v, vL, vF, le, L, F, hS⟩ := hq.out
            have hb0 := hS.rf.below
            obtain ⟨ob, off, cap, e, hat⟩ := HL.out.at hlk
            injection e with e1 e2 e3
            subst e1 e3
            clear e2
            obtain ⟨g1, g2, g3⟩ := HSm.out k hlk hlk
            obtain ⟨D, hD⟩ : ∃ D, l[k] = D := ⟨_, rfl⟩
            rw [hD] at hat g1 g2 g3
            obtain ⟨kd, vg, G, vc, C, ⟨rx, ax, nx, cx, sx, tx⟩⟩ := D
            obtain ⟨c0, c1, c2, c3, c4, c5⟩ := (hat.below hb0).cells
            simp only at c0 c1 c2 c3 c4 c5 g1 g2 g3
            obtain ⟨ga, gc, hvg⟩ := hat.g.form
            obtain ⟨ca, cc, hvc⟩ := hat.c.form
            simp only at hvg hvc
            subst hvg hvc
            obtain ⟨lG, nG⟩ := greatD_false g1
            obtain ⟨lC, nC⟩ := greatD_false g2
            have nX : nx ≤ 20 := (greatD_false g3).2 _ (.head _)
            obtain ⟨hxl, hXn⟩ := hat.x.2.2.2.2 (by show nx ≤ 1000000; omega)
            simp only at hxl hXn
            subst hxl
            have hAO : AO w0 (.slice ga G.length gc) (.slice ca C.length cc) (G.map ActD.ac) (C.map ActD.ac) ⟨rx, tx, sx, .slice ax tx.length cx⟩ :=
              ⟨hat.g.acts (by simp only; omega) (fun g hg => Nat.le_trans (nG g hg) (by omega)), hat.c.acts (by simp only; omega) (fun g hg => Nat.le_trans (nC g hg) (by omega)), hXn, by simp; omega, by simp; omega⟩
            have hk60 : k < 60 := by omega
            obtain ⟨WO, hWO⟩ : ∃ WO, wr.alloc (Obj.cells #[.int .i64 kd, .slice ga G.length gc, .slice ca C.length cc, .int .i64 rx, .slice ax tx.length cx, .int .i64 sx] 44) = WO := ⟨_, rfl⟩
            have hbO : Below wr.heap.size wr WO := by rw [← hWO]; exact ((Only.refl [] wr).alloc _).below
            have hbx : OpBox WO wr.heap.size kd (.slice ga G.length gc) (.slice ca C.length cc) ⟨rx, tx, sx, .slice ax tx.length cx⟩ := by rw [← hWO]; exact heap_alloc0 wr _
            have hSO := hS.below hbO
            have i1 : (k : Int) < (l.length : Int) := by omega
            have i2 : (0 : Int) ≤ (k : Int) := by omega
            have HWO := hide hWO
            have HSO := hide hSO
            have HAO := hide hAO
            have Hbx := hide hbx
            clear hS hb0 hat hD g1 g2 g3 lG nG lC nC nX hXn hAO hWO hbO hbx hSO hq
            go_upto_block 4 with fail
            rw [HWO.out]
            go_cut [8, 9, 12, 13, 14, 15, 16, 17] from 72 to 162 (fun u8 u9 _ _ _ _ _ _ wx => ∃ b1 b2 : Nat, u8 = .pointer (some ⟨b1, 0, none⟩) ∧ u9 = .pointer (some ⟨b2, 0, none⟩) ∧ Hid (Both w0 wx b1 b2 s (k + 1)))
            case first =>
              clear c0 c1 c2 c3 c4 c5
              obtain ⟨o0, o1, o2, o3, o4, o5⟩ := Hbx.out.cells
              simp only at o3 o4 o5
              by_cases h1 : kd = 1
              · subst h1
                have H := hide (chain1 HSO.out HAO.out Hbx.out hk60)
                rw [List.length_map] at H
                go_wp2_with fail
                (with_reducible refine H.out.mono ?_)
                rintro r V1 ⟨va, c, rfl, ⟨p0, p1, p2, p3, p4, p5⟩, h⟩
                have H1 := hide h
                clear h H o0 o1 o2 o3 o4 o5 p0 p3 p4 p5
                go_wp2_with fail
                (with_reducible refine H1.out.mono ?_)
                rintro r V2 ⟨rfl, ⟨q0, q1, q2, q3, q4, q5⟩, h⟩
                have H2 := hide h
                clear h H1 p1 p2 q0 q3 q4 q5
                go_wp2_with fail
                (with_reducible refine H2.out.mono ?_)
                rintro r V3 ⟨rfl, h⟩
                have H3 := hide h
                clear h H2 q1 q2
                go_wp2_with fail
                (with_reducible refine H3.out.mono ?_)
                rintro r V4 ⟨rfl, h⟩
                have H4 := hide h
                clear h H3
                go_wp2
                go_meet
                case rel => exact ⟨b, b', rfl, rfl, H4⟩
              have e1 : (kd == 1) = false := by simpa using h1
              by_cases h2 : kd = 2
              · subst h2
                have oD : Below WO.heap.size WO WO.drew := (Only.drew (Only.refl [] WO)).below
                obtain ⟨p, hA, hB⟩ := chain2 (HSO.out.below oD) HAO.out (Hbx.out.below oD) hk60
                simp only [Ac.val] at hA hB
                have HA := hide hA
                have HB := hide hB
                clear hA hB oD o0 o1 o2
                go_wp2_with fail
                go_region_held3 (fun V => V.cell? ⟨wr.heap.size, 3, none⟩ = some (.int .i64 rx) ∧ V.cell? ⟨wr.heap.size, 4, none⟩ = some (.slice ax tx.length cx) ∧ V.cell? ⟨wr.heap.size, 5, none⟩ = some (.int .i64 sx)) (go_keep)
                  (first
                    | ((go_at_call 14; have hqq := HA.out; (with_reducible refine Calls.mono hqq ?_); clear hqq; rintro r V1 ⟨rfl, ⟨p0, p1, p2, p3, p4, p5⟩, h⟩; simp only at p3 p4 p5; have HA2 := hide h; clear h p0 p1 p2 HB))
                    | ((go_at_call 24; have hqq := HA2.out; (with_reducible refine Calls.mono hqq ?_); clear hqq; rintro r V2 ⟨rfl, ⟨q0, q1, q2, q3, q4, q5⟩, h⟩; simp only at q3 q4 q5; have HFin := hide h; clear h q0 q1 q2 HA2))
                    | ((go_at_call 24; have hqq := HB.out; (with_reducible refine Calls.mono hqq ?_); clear hqq; rintro r V1 ⟨rfl, ⟨p0, p1, p2, p3, p4, p5⟩, h⟩; simp only at p3 p4 p5; have HB2 := hide h; clear h p0 p1 p2 HA))
                    | ((go_at_call 14; have hqq := HB2.out; (with_reducible refine Calls.mono hqq ?_); clear hqq; rintro r V2 ⟨rfl, ⟨q0, q1, q2, q3, q4, q5⟩, h⟩; simp only at q3 q4 q5; have HFin := hide h; clear h q0 q1 q2 HB2)))
                all_goals
                  clear o3 o4 o5 p3 p4 p5 q3 q4 q5
                  go_wp2
                  go_meet
                  case rel => exact ⟨b, b', rfl, rfl, HFin⟩
              have e2 : (kd == 2) = false := by simpa using h2
              by_cases h3 : kd = 3
              · subst h3
                have H := hide (chain3 HSO.out hk60)
                clear o0 o1 o2 o3 o4 o5
                go_wp2_with fail
                (with_reducible refine H.out.mono ?_)
                rintro r V1 ⟨yr, ya, yn, yc, ys, q, rfl, h⟩
                have H1 := hide h
                clear h H
                go_wp2_with fail
                (with_reducible refine H1.out.mono ?_)
                rintro r V2 ⟨za, zn, zc, rfl, hT⟩
                clear H1
                rcases hT with ⟨rfl, rfl, h⟩ | ⟨rfl, zg, zo, rfl, hz, hz1, ⟨y0, y1, y2⟩, hBl, h⟩
                · have HFin := hide h
                  clear h
                  go_wp2_with fail
                  go_quiet (fail)
                  have HFin2 := hide (Both.below HFin.out ((Only.refl [] V2).drewN nq).below)
                  go_wp2
                  go_meet
                  case rel => exact ⟨b, b', rfl, rfl, HFin2⟩
                · have H2 := hide h
                  have hz2 : (0 : Int) < (zn : Int) := by omega
                  have hz3 : (1 : Int) ≤ (zc : Int) := by omega
                  have hz4 : decide (0 < zn) = true := decide_eq_true hz
                  have hz5 : decide ((0 : Int) < (zn : Int)) = true := decide_eq_true hz2
                  clear h
                  go_wp2_with fail
                  go_region_held3 (fun V => V.cell? ⟨V1.heap.size, 0, none⟩ = some (.int .i64 yr) ∧ V.cell? ⟨V1.heap.size, 1, none⟩ = some (.slice ya yn yc) ∧ V.cell? ⟨V1.heap.size, 2, none⟩ = some (.int .i64 ys)) (go_keep)
                    (first
                      | ((go_at_call 19; have hqq := H2.out; (with_reducible refine Calls.mono hqq ?_); clear hqq; rintro r V3 ⟨rfl, ⟨p0, p1, p2⟩, h⟩; have H3 := hide h; clear h H2))
                      | ((go_at_call 14; have hqq := H3.out; (with_reducible refine Calls.mono hqq ?_); clear hqq; rintro r V4 ⟨rfl, ⟨q0, q1, q2⟩, h⟩; have H4 := hide h; clear h H3)))
                  clear y0 y1 y2 p0 p1 p2 q0 q1 q2
                  obtain ⟨zr, zs, zxa, zxn, zxc, c0, c1, c2, h⟩ := H4.out
                  have H5 := hide h
                  clear h H4
                  go_wp2_with fail
                  (with_reducible refine H5.out.mono ?_)
                  rintro r V5 ⟨p, rfl, h⟩
                  have HFin := hide h
                  clear h H5 c0 c1 c2
                  go_wp2
                  go_meet
                  case rel => exact ⟨b, b', rfl, rfl, HFin⟩
              have e3 : (kd == 3) = false := by simpa using h3
              by_cases h4 : kd = 4
              · subst h4
                have H := hide (chain4 HSO.out hk60)
                go_wp2_with fail
                (with_reducible refine H.out.mono ?_)
                rintro r V1 ⟨c, rfl, h⟩
                have H1 := hide h
                clear h H o0 o1 o2 o3 o4 o5
                go_wp2_with fail
                (with_reducible refine H1.out.mono ?_)
                rintro r V2 ⟨va, n, vc, rfl, h⟩
                have H2 := hide h
                clear h H1
                go_wp2_with fail
                (with_reducible refine H2.out.mono ?_)
                rintro r V3 ⟨rfl, h⟩
                have H3 := hide h
                clear h H2
                go_wp2_with fail
                (with_reducible refine H3.out.mono ?_)
                rintro r V4 ⟨b2, rfl, h⟩
                have H4 := hide h
                clear h H3
                go_wp2
                go_meet
                case rel => exact ⟨c, b2, rfl, rfl, H4⟩
              have e4 : (kd == 4) = false := by simpa using h4
              by_cases h5 : kd = 5
              · subst h5
                have H := hide (chain5 HSO.out HAO.out Hbx.out hk60)
                go_wp2_with fail
                (with_reducible refine H.out.mono ?_)
                rintro r V1 ⟨c, rfl, ⟨p0, p1, p2, p3, p4, p5⟩, h⟩
                simp only [Ac.val] at p3 p4 p5 h
                have H1 := hide h
                clear h H o0 o1 o2 o3 o4 o5 p0 p1 p2
                go_wp2_with fail
                (with_reducible refine H1.out.mono ?_)
                rintro r V2 ⟨pp, rfl, ⟨q0, q1, q2, q3, q4, q5⟩, h⟩
                have H2 := hide h
                clear h H1 p3 p4 p5 q0 q3 q4 q5
                go_wp2_with fail
                (with_reducible refine H2.out.mono ?_)
                rintro r V3 ⟨rfl, h⟩
                have H3 := hide h
                clear h H2
                go_wp2
                go_meet
                case rel => exact ⟨b, b', rfl, rfl, H3⟩
              have e5 : (kd == 5) = false := by simpa using h5
              have H4 := hide (show Both w0 WO b b' s (k + 1) from ⟨_, _, _, _, _, _, HSO.out.next⟩)
              go_wp2
              go_meet
              case rel => exact ⟨b, b', rfl, rfl, H4⟩
            case rest =>
              obtain ⟨b1, b2, rfl, rfl, hB⟩ := hcut
              obtain ⟨v, vL, vF, le, L, F, hS⟩ := hB.out
              have H := hide (chainT (x := ⟨xr, xt, xs, .slice xa xt.length xc⟩) hS (by omega) (HX.out.below hS.rf.below))
              have Hxw : Hid (∀ V, Below wc.heap.size wc V → Box3 V w.heap.size xr (.slice xa xt.length xc) xs) := hide (fun V hV => (HBx0.out.below hS.rf.below).below hV)
              clear hS hB c0 c1 c2 c3 c4 c5
              go_wp2_with fail
              (with_reducible refine H.out.mono ?_)
              rintro r V1 ⟨ra, rn, rc, rfl, h⟩
              have H1 := hide h
              clear h H
              go_wp2_with fail
              (with_reducible refine H1.out.mono ?_)
              rintro r V2 ⟨qa, qn, qc, rfl, hbw, HL, HA, ⟨p, HH1, HH2⟩, ⟨f, HF1, HF2⟩, HSp⟩
              have Hxc : Hid (∀ V, Below V2.heap.size V2 V → Box3 V w.heap.size xr (.slice xa xt.length xc) xs) := hide (fun V hV => Hxw.out V (hbw.trans (hV.mono hbw.size)))
              have HB : Hid (Below V2.heap.size V2 V2.drew) := hide (Only.drew (Only.refl [] V2)).below
              simp only [Ac.val] at HH1 HH2 HF1 HF2
              obtain ⟨y0, y1, y2⟩ := Hxc.out _ HB.out
              clear H1 hbw Hxw
              go_wp2_with fail
              go_region_held3 (fun V => V.cell? ⟨w.heap.size, 0, none⟩ = some (.int .i64 xr) ∧ V.cell? ⟨w.heap.size, 1, none⟩ = some (.slice xa xt.length xc) ∧ V.cell? ⟨w.heap.size, 2, none⟩ = some (.int .i64 xs)) (go_keep)
                (first
                  | ((go_at_call 25; have hqq := HL.out _ HB; (with_reducible refine Calls.mono hqq ?_); clear hqq; rintro r V ⟨ta, tn, tc, rfl, hb, HS1⟩; clear y0 y1 y2; obtain ⟨y0, y1, y2⟩ := Hxc.out _ hb.out; clear HB; have HB := hb; clear hb))
                  | ((go_at_call 19; have hqq := HS1.out; (with_reducible refine Calls.mono hqq ?_); clear hqq; rintro r V ⟨rfl, hb⟩; clear y0 y1 y2; obtain ⟨y0, y1, y2⟩ := Hxc.out _ hb.out; clear HB; have HB := hb; clear hb; clear HS1))
                  | ((go_at_call 28; have hqq := HA.out _ HB; (with_reducible refine Calls.mono hqq ?_); clear hqq; rintro r V ⟨sa, sn, sc, rfl, hb, HS2⟩; clear y0 y1 y2; obtain ⟨y0, y1, y2⟩ := Hxc.out _ hb.out; clear HB; have HB := hb; clear hb))
                  | ((go_at_call 19; have hqq := HS2.out; (with_reducible refine Calls.mono hqq ?_); clear hqq; rintro r V ⟨rfl, hb⟩; clear y0 y1 y2; obtain ⟨y0, y1, y2⟩ := Hxc.out _ hb.out; clear HB; have HB := hb; clear hb; clear HS2))
                  | ((go_at_call 13; have hqq := HH1.out _ HB; (with_reducible refine Calls.mono hqq ?_); clear hqq; rintro r V ⟨rfl, hb⟩; clear y0 y1 y2; obtain ⟨y0, y1, y2⟩ := Hxc.out _ hb.out; clear HB; have HB := hb; clear hb))
                  | ((go_at_call 29; have hqq := HH2.out _ HB; (with_reducible refine Calls.mono hqq ?_); clear hqq; rintro r V ⟨rfl, hb⟩; clear y0 y1 y2; obtain ⟨y0, y1, y2⟩ := Hxc.out _ hb.out; clear HB; have HB := hb; clear hb))
                  | ((go_at_call 16; have hqq := HF1.out _ HB; (with_reducible refine Calls.mono hqq ?_); clear hqq; rintro r V ⟨rfl, hb⟩; clear y0 y1 y2; obtain ⟨y0, y1, y2⟩ := Hxc.out _ hb.out; clear HB; have HB := hb; clear hb))
                  | ((go_at_call 30; have hqq := HF2.out _ HB; (with_reducible refine Calls.mono hqq ?_); clear hqq; rintro r V ⟨rfl, hb⟩; clear y0 y1 y2; obtain ⟨y0, y1, y2⟩ := Hxc.out _ hb.out; clear HB; have HB := hb; clear hb)))
              all_goals
                clear y0 y1 y2
                have HS3 := hide (HSp.out _ HB)
                go_wp2_with fail
                (with_reducible refine HS3.out.mono ?_)
                rintro r V3 ⟨rfl, HS4⟩
                go_wp2_with fail
                (with_reducible refine HS4.out.mono ?_)
                rintro r V4 ⟨rfl, HFin⟩
                go_wp2
                go_roundw
                case rel => exact ⟨k + 1, b1, b2, by omega, rfl, rfl, by go_num, HFin.out⟩
                case measure => simp [intOf]; omega
          · obtain rfl : k = l.length := by omega
            have HF := hide (Hbw0.out.trans (hq.out.choose_spec.choose_spec.choose_spec.choose_spec.choose_spec.choose_spec.rf.below.mono Hbw0.out.size))
            clear hq
            go_wp2_with (go_at_call 9; refine (known27_walk _).mono ?_; rintro e w' ⟨rfl, hk⟩)
            go_ret
            exact ⟨rfl, HF.out.trans (hk.mono HF.out.size)⟩
end Go.Proofs.Ytelgajgghgknnaa
