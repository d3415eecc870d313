/- The contracts of witanref27's Has, IsFired, All, List. -/
import Derived.Test.YtelgajgghgknnaaRAg1
namespace Go.Proofs.Ytelgajgghgknnaa
open Go Go.RowKit Go.MapKept Go.Sort

/-- Block b is the document's agenda: what matches, L; what was fired, F. Their tuples are what was handed in: memory of w0. -/
structure RefIs (w0 w : World) (b : Nat) (s : Int) (vL vF : Value) (L F : List Ac) : Prop where
  blk : w.heap[b]? = some (.cells #[.int .u8 s, vL, vF] 47 (0, 0))
  hb : w0.heap.size ≤ b
  below : Below w0.heap.size w0 w
  lenL : L.length ≤ 100000
  lenF : F.length ≤ 100000
  rowL : w.ownsRow w0.heap.size 27 3 vL L.length (aflat L)
  rowF : w.ownsRow w0.heap.size 27 3 vF F.length (aflat F)
  tupL : ∀ a ∈ L, NIs w0 a.x a.tup
  tupF : ∀ a ∈ F, NIs w0 a.x a.tup

theorem RefIs.to {w0 w w' : World} {b : Nat} {s : Int} {vL vF : Value} {L F : List Ac} (h : RefIs w0 w b s vL vF L F) (hb : Below w.heap.size w w') : RefIs w0 w' b s vL vF L F :=
  ⟨(hb.block b (lt_of_heap h.blk)).trans h.blk, h.hb, h.below.trans (hb.mono h.below.size), h.lenL, h.lenF, owns_below h.rowL hb, owns_below h.rowF hb, h.tupL, h.tupF⟩
theorem RefIs.actsL {w0 w : World} {b : Nat} {s : Int} {vL vF : Value} {L F : List Ac} (h : RefIs w0 w b s vL vF L F) : ActsIs w vL L := ActsIs.of_owns (by have := h.lenL; omega) h.rowL (fun a ha => (h.tupL a ha).below h.below)
theorem RefIs.actsF {w0 w : World} {b : Nat} {s : Int} {vL vF : Value} {L F : List Ac} (h : RefIs w0 w b s vL vF L F) : ActsIs w vF F := ActsIs.of_owns (by have := h.lenF; omega) h.rowF (fun a ha => (h.tupF a ha).below h.below)
theorem cells3f {w : World} {b : Nat} {x y z : Value} {t : TypeId} (h : w.heap[b]? = some (.cells #[x, y, z] t (0, 0))) :
    w.cell? ⟨b, 0, none⟩ = some x ∧ w.cell? ⟨b, 1, none⟩ = some y ∧ w.cell? ⟨b, 2, none⟩ = some z ∧ w.frozen? ⟨b, 1, none⟩ = false ∧ w.frozen? ⟨b, 2, none⟩ = false := by
  simp [World.cell?, World.frozen?, h]

set_option maxHeartbeats 1000000 in
theorem rHas_any {w0 : World} (b : Nat) (s : Int) (vL vF : Value) (L F : List Ac) (x : Ac) (w : World) (h : RefIs w0 w b s vL vF L F) (hx : NIs w x.x x.tup) :
    Calls Try.prog 29 #[.pointer (some ⟨b, 0, none⟩), x.val] w fun r w' => r = .returned (.bool (L.any fun a => a.same x)) ∧ Below w.heap.size w w' := by
  have hltb := lt_of_heap h.blk
  obtain ⟨e0, e1, e2, _, _⟩ := cells3f h.blk
  obtain ⟨rx, lx, sx, vx⟩ := x
  simp only at hx
  obtain ⟨xa, xc, rfl⟩ := hx.form
  obtain ⟨va, vc, rfl⟩ := h.actsL.form
  obtain ⟨W, hW⟩ : ∃ W, w.alloc (Obj.cells #[.int .i64 rx, .slice xa lx.length xc, .int .i64 sx] 27) = W := ⟨_, rfl⟩
  have hb1 : Below w.heap.size w W := by rw [← hW]; exact ((Only.refl [] w).alloc _).below
  have hbox := heap_alloc0 w (Obj.cells #[.int .i64 rx, .slice xa lx.length xc, .int .i64 sx] 27)
  have hsz : W.heap.size = w.heap.size + 1 := by rw [← hW]; simp
  rw [hW] at hbox
  obtain ⟨b0, b1, b2, _⟩ := cells3a hbox
  have oD : Below W.heap.size W W.drew := (Only.drew (Only.refl [] W)).below
  have f1 := (hb1.cell (p := ⟨b, 1, none⟩) hltb).trans e1
  have hh := rhas_any _ L ⟨rx, lx, sx, .slice xa lx.length xc⟩ W.drew ((h.actsL.below hb1).below oD) ((hx.below hb1).below oD)
  have hkeep : ∀ V, Below W.drew.heap.size W.drew V → Below w.heap.size w V ∧ V.cell? ⟨w.heap.size, 0, none⟩ = some (.int .i64 rx) ∧ V.cell? ⟨w.heap.size, 1, none⟩ = some (.slice xa lx.length xc) ∧ V.cell? ⟨w.heap.size, 2, none⟩ = some (.int .i64 sx) ∧ V.cell? ⟨b, 1, none⟩ = some (.slice va L.length vc) := fun V hV =>
    have hz : w.heap.size < W.heap.size := by omega
    have hz2 : b < W.heap.size := by omega
    have hV' := below_undrew hV
    ⟨hb1.trans (hV'.mono (by omega)), (hV'.cell (p := ⟨w.heap.size, 0, none⟩) hz).trans b0, (hV'.cell (p := ⟨w.heap.size, 1, none⟩) hz).trans b1, (hV'.cell (p := ⟨w.heap.size, 2, none⟩) hz).trans b2, (hV'.cell (p := ⟨b, 1, none⟩) hz2).trans f1⟩
  unfold Ac.val at hh ⊢
  have Hh := hide hh
  have HW := hide hW
  have Hkeep := hide hkeep
  obtain ⟨p, hp⟩ : ∃ p, (L.any fun a => a.same ⟨rx, lx, sx, .slice xa lx.length xc⟩) = p := ⟨_, rfl⟩
  rw [hp] at Hh ⊢
  clear hh hkeep h hx hW hb1 hbox hsz oD e0 e1 e2 hp
  go_enter Try.func29, Try.ntmps29
  go_upto_region 1 with fail
  rw [HW.out]
  go_wp2_with fail
  go_region_held3 (fun V => V.cell? ⟨w.heap.size, 0, none⟩ = some (.int .i64 rx) ∧ V.cell? ⟨w.heap.size, 1, none⟩ = some (.slice xa lx.length xc) ∧ V.cell? ⟨w.heap.size, 2, none⟩ = some (.int .i64 sx) ∧ V.cell? ⟨b, 1, none⟩ = some (.slice va L.length vc)) (go_keep)
    ((go_at_call 40; have hqq := Hh.out; with_reducible refine Calls.mono hqq ?_; clear hqq; rintro r V ⟨rfl, hbV⟩; obtain ⟨y0, y1, y2, y3, y4⟩ := Hkeep.out V hbV; have HbV := hide y0; clear hbV y0))
  go_wp2
  go_ret
  exact ⟨rfl, HbV.out⟩
set_option maxHeartbeats 1000000 in
theorem rFired_any {w0 : World} (b : Nat) (s : Int) (vL vF : Value) (L F : List Ac) (x : Ac) (w : World) (h : RefIs w0 w b s vL vF L F) (hx : NIs w x.x x.tup) :
    Calls Try.prog 30 #[.pointer (some ⟨b, 0, none⟩), x.val] w fun r w' => r = .returned (.bool (F.any fun a => a.same x)) ∧ Below w.heap.size w w' := by
  have hltb := lt_of_heap h.blk
  obtain ⟨e0, e1, e2, _, _⟩ := cells3f h.blk
  obtain ⟨rx, lx, sx, vx⟩ := x
  simp only at hx
  obtain ⟨xa, xc, rfl⟩ := hx.form
  obtain ⟨va, vc, rfl⟩ := h.actsF.form
  obtain ⟨W, hW⟩ : ∃ W, w.alloc (Obj.cells #[.int .i64 rx, .slice xa lx.length xc, .int .i64 sx] 27) = W := ⟨_, rfl⟩
  have hb1 : Below w.heap.size w W := by rw [← hW]; exact ((Only.refl [] w).alloc _).below
  have hbox := heap_alloc0 w (Obj.cells #[.int .i64 rx, .slice xa lx.length xc, .int .i64 sx] 27)
  have hsz : W.heap.size = w.heap.size + 1 := by rw [← hW]; simp
  rw [hW] at hbox
  obtain ⟨b0, b1, b2, _⟩ := cells3a hbox
  have oD : Below W.heap.size W W.drew := (Only.drew (Only.refl [] W)).below
  have f1 := (hb1.cell (p := ⟨b, 2, none⟩) hltb).trans e2
  have hh := rhas_any _ F ⟨rx, lx, sx, .slice xa lx.length xc⟩ W.drew ((h.actsF.below hb1).below oD) ((hx.below hb1).below oD)
  have hkeep : ∀ V, Below W.drew.heap.size W.drew V → Below w.heap.size w V ∧ V.cell? ⟨w.heap.size, 0, none⟩ = some (.int .i64 rx) ∧ V.cell? ⟨w.heap.size, 1, none⟩ = some (.slice xa lx.length xc) ∧ V.cell? ⟨w.heap.size, 2, none⟩ = some (.int .i64 sx) ∧ V.cell? ⟨b, 2, none⟩ = some (.slice va F.length vc) := fun V hV =>
    have hz : w.heap.size < W.heap.size := by omega
    have hz2 : b < W.heap.size := by omega
    have hV' := below_undrew hV
    ⟨hb1.trans (hV'.mono (by omega)), (hV'.cell (p := ⟨w.heap.size, 0, none⟩) hz).trans b0, (hV'.cell (p := ⟨w.heap.size, 1, none⟩) hz).trans b1, (hV'.cell (p := ⟨w.heap.size, 2, none⟩) hz).trans b2, (hV'.cell (p := ⟨b, 2, none⟩) hz2).trans f1⟩
  unfold Ac.val at hh ⊢
  have Hh := hide hh
  have HW := hide hW
  have Hkeep := hide hkeep
  obtain ⟨p, hp⟩ : ∃ p, (F.any fun a => a.same ⟨rx, lx, sx, .slice xa lx.length xc⟩) = p := ⟨_, rfl⟩
  rw [hp] at Hh ⊢
  clear hh hkeep h hx hW hb1 hbox hsz oD e0 e1 e2 hp
  go_enter Try.func30, Try.ntmps30
  go_upto_region 1 with fail
  rw [HW.out]
  go_wp2_with fail
  go_region_held3 (fun V => V.cell? ⟨w.heap.size, 0, none⟩ = some (.int .i64 rx) ∧ V.cell? ⟨w.heap.size, 1, none⟩ = some (.slice xa lx.length xc) ∧ V.cell? ⟨w.heap.size, 2, none⟩ = some (.int .i64 sx) ∧ V.cell? ⟨b, 2, none⟩ = some (.slice va F.length vc)) (go_keep)
    ((go_at_call 40; have hqq := Hh.out; with_reducible refine Calls.mono hqq ?_; clear hqq; rintro r V ⟨rfl, hbV⟩; obtain ⟨y0, y1, y2, y3, y4⟩ := Hkeep.out V hbV; have HbV := hide y0; clear hbV y0))
  go_wp2
  go_ret
  exact ⟨rfl, HbV.out⟩

set_option maxHeartbeats 1000000 in
theorem rAll_any {w0 : World} (b : Nat) (s : Int) (vL vF : Value) (L F : List Ac) (w : World) (h : RefIs w0 w b s vL vF L F) :
    Calls Try.prog 28 #[.pointer (some ⟨b, 0, none⟩)] w fun r w' => ∃ v' l', r = .returned v' ∧ ActsIs w' v' l' ∧ l'.map Ac.co = sortC s (L.map Ac.co) ∧ Below w.heap.size w w' := by
  have hltb := lt_of_heap h.blk
  obtain ⟨e0, e1, e2, _, _⟩ := cells3f h.blk
  obtain ⟨va, vc, rfl⟩ := h.actsL.form
  have oD : Below w.heap.size w w.drew := (Only.drew (Only.refl [] w)).below
  have Hs := hide (rsort_any s _ L w.drew (h.actsL.below oD))
  have Hkeep : Hid (∀ V, Below w.drew.heap.size w.drew V → V.cell? ⟨b, 0, none⟩ = some (.int .u8 s) ∧ V.cell? ⟨b, 1, none⟩ = some (.slice va L.length vc)) := fun V hV =>
    ⟨((below_undrew hV).cell (p := ⟨b, 0, none⟩) hltb).trans e0, ((below_undrew hV).cell (p := ⟨b, 1, none⟩) hltb).trans e1⟩
  clear h oD e2
  go_enter Try.func28, Try.ntmps28
  go_wp2_with fail
  go_region_held3 (fun V => V.cell? ⟨b, 0, none⟩ = some (.int .u8 s) ∧ V.cell? ⟨b, 1, none⟩ = some (.slice va L.length vc)) (go_keep)
    ((go_at_call 41; have hqq := Hs.out; with_reducible refine Calls.mono hqq ?_; clear hqq; rintro r V ⟨v', l', rfl, h1, h2, h3⟩; obtain ⟨a', c', rfl⟩ := h1.form; obtain ⟨y0, y1⟩ := Hkeep.out V h3; have H1 := hide h1; have H2 := hide h2; have H3 := hide (below_undrew h3); clear h1 h2 h3))
  clear e0 e1 y0 y1
  go_wp2
  go_ret
  exact ⟨_, l', rfl, H1.out, H2.out, H3.out⟩
end Go.Proofs.Ytelgajgghgknnaa
