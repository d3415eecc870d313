/- The walks of witanlaw29's known, and TruthNone. -/
import Derived.Test.YtmcajoccfbebiaaTrK
import Derived.Test.YtmcajoccfbebiaaTrN
namespace Go.Proofs.Ytmcajoccfbebiaa
open Go Go.RowKit Go.MapKept Go.Sort

set_option maxRecDepth 100000 in
set_option maxHeartbeats 1000000 in
theorem known29_walk (w : World) : Calls Try.prog 25 #[] w fun e w' => e = .returned (.bool true) ∧ Below w.heap.size w w' := by
  have H0 := hide (known_chain w)
  go_enter Try.func25, Try.ntmps25
  go_wp2_with fail
  (with_reducible refine H0.out.mono ?_)
  rintro r w1 ⟨b, rfl, h⟩
  have H1 := hide h
  clear h H0
  go_wp2_with fail
  (with_reducible refine H1.out.mono ?_)
  rintro r w2 ⟨c, rfl, h⟩
  have H2 := hide h
  clear h H1
  go_wp2_with fail
  (with_reducible refine H2.out.mono ?_)
  rintro r w3 ⟨rfl, h⟩
  have H3 := hide h
  clear h H2
  go_wp2_with fail
  (with_reducible refine H3.out.mono ?_)
  rintro r w4 ⟨rfl, h⟩
  have H4 := hide h
  clear h H3
  go_wp2_with fail
  (with_reducible refine H4.out.mono ?_)
  rintro r w5 ⟨rfl, h⟩
  have H5 := hide h
  clear h H4
  go_wp2_with fail
  (with_reducible refine H5.out.mono ?_)
  rintro r w6 ⟨la, lc, rfl, h⟩
  have H6 := hide h
  clear h H5
  go_wp2_with fail
  (with_reducible refine H6.out.mono ?_)
  rintro r w7 ⟨p, rfl, h⟩
  have H7 := hide h
  clear h H6
  go_wp2_with fail
  (with_reducible refine H7.out.mono ?_)
  rintro r w8 ⟨rfl, h⟩
  have H8 := hide h
  clear h H7
  go_wp2_with fail
  (with_reducible refine H8.out.mono ?_)
  rintro r w9 ⟨rfl, h⟩
  have H9 := hide h
  clear h H8
  go_wp2_with fail
  (with_reducible refine H9.out.mono ?_)
  rintro r w10 ⟨ma, n, mc, rfl, h⟩
  have H10 := hide h
  clear h H9
  go_wp2_with fail
  (with_reducible refine H10.out.mono ?_)
  rintro r w11 ⟨rfl, h⟩
  have H11 := hide h
  clear h H10
  go_wp2_with fail
  (with_reducible refine H11.out.mono ?_)
  rintro r w12 ⟨na, k, nc, rfl, h⟩
  have H12 := hide h
  clear h H11
  go_wp2_with fail
  (with_reducible refine H12.out.mono ?_)
  rintro r w13 ⟨rfl, h⟩
  have H13 := hide h
  clear h H12
  go_wp2
  go_ret
  exact ⟨rfl, H13.out⟩

set_option maxRecDepth 100000 in
set_option maxHeartbeats 1000000 in
theorem none_walk (id : Int) (r : Int) (a : Option Addr) (n c : Nat) (w : World) : Calls Try.prog 9 #[.int .i64 id, .agg #[.int .i64 r, .slice a n c]] w fun e w' => e = .returned (.bool true) ∧ Below w.heap.size w w' := by
  obtain ⟨W, hW⟩ : ∃ W, w.alloc (Obj.cells #[.int .i64 r, .slice a n c] 53) = W := ⟨_, rfl⟩
  have hbW : Below w.heap.size w W := by rw [← hW]; exact ((Only.refl [] w).alloc _).below
  have hbx := heap_alloc0 w (Obj.cells #[.int .i64 r, .slice a n c] 53)
  have hz : W.heap.size = w.heap.size + 1 := by rw [← hW]; simp
  rw [hW] at hbx
  obtain ⟨x0, x1, _⟩ := cells2e hbx
  have Hx : Hid (∀ V, Below W.heap.size W V → V.cell? ⟨w.heap.size, 0, none⟩ = some (.int .i64 r) ∧ V.cell? ⟨w.heap.size, 1, none⟩ = some (.slice a n c)) := hide fun V hV => by
    obtain ⟨k0, k1, _⟩ := cells2e ((hV.block w.heap.size (by omega)).trans hbx)
    exact ⟨k0, k1⟩
  have HW := hide hW
  have HbW := hide hbW
  clear hW hbW hbx hz
  go_enter Try.func9, Try.ntmps9
  go_upto_region 1 with fail
  rw [HW.out]
  go_wp2_with (go_at_call 27; refine (plain_nil id _).mono ?_; rintro e w' ⟨rfl, rfl⟩)
  (with_reducible refine (justify_nil id r a n c _).mono ?_)
  rintro e V ⟨rfl, hb⟩
  clear x0 x1
  obtain ⟨x0, x1⟩ := Hx.out V hb
  have HV := hide hb
  clear hb
  go_wp2_with (first
    | (go_at_call 33; refine (drop_nil id _).mono ?_; rintro e w' ⟨rfl, rfl⟩)
    | (go_at_call 30; refine (isPlain_nil id _).mono ?_; rintro e w' ⟨rfl, rfl⟩))
  (with_reducible refine (withdraw_nil r a n c _).mono ?_)
  rintro e V2 ⟨rfl, hb2⟩
  have HV2 := hide (HV.out.trans (hb2.mono HV.out.size))
  clear hb2 x0 x1
  go_wp2_with (first
    | (go_at_call 32; refine (of_nil id _).mono ?_; rintro e w' ⟨rfl, rfl⟩)
    | (go_at_call 31; refine (facts_nil _).mono ?_; rintro e w' ⟨rfl, rfl⟩))
  (with_reducible refine (lost_nil _).mono ?_)
  rintro e V3 ⟨rfl, hb3⟩
  have HV3 := hide (HV2.out.trans (hb3.mono HV2.out.size))
  clear hb3
  go_wp2_with (go_at_call 43; refine (copy_nil _).mono ?_; rintro e w' ⟨rfl, rfl⟩)
  (with_reducible refine (known29_walk _).mono ?_)
  rintro e V4 ⟨rfl, hb4⟩
  have HV4 := hide (HV3.out.trans (hb4.mono HV3.out.size))
  clear hb4
  go_wp2
  go_ret
  exact ⟨rfl, HbW.out.trans (HV4.out.mono (HbW.out.size))⟩
end Go.Proofs.Ytmcajoccfbebiaa
