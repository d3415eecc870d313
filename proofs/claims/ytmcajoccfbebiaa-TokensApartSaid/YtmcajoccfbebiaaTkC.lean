/- Tokens: known. -/
import Derived.Test.YtmcajoccfbebiaaTkB
namespace Go.Proofs.Ytmcajoccfbebiaa
open Go Go.RowKit Go.MapKept Go.Sort

def k1 : List Tk := [zeroTk, ⟨1, 0, 1, 7⟩]
def k2 : List Tk := [zeroTk, ⟨1, 0, 1, 7⟩, ⟨2, 1, 2, 0⟩]
def k3 : List Tk := [zeroTk, ⟨1, 0, 1, 7⟩, ⟨2, 1, 2, 0⟩, ⟨3, 2, 3, 9⟩]
theorem kadd1 : addT [zeroTk] 0 0 1 7 = some k1 := by rfl
theorem kadd2 : addT k1 (0 + 1) 1 2 0 = some k2 := by rfl
theorem kadd3 : addT k2 (0 + 1 + 1) 2 3 9 = some k3 := by rfl
theorem kadd4 : addT k3 (0 + 1 + 1 + 1) 9 1 1 = none := by rfl
theorem ktup : tupT k3 (0 + 1 + 1 + 1) 3 = [7, 9] := by rfl
theorem kgone : (goneL k3 (0 + 1 + 1 + 1) 2).map Tk.id = [2, 3] := by rfl
theorem krem : (remT k3 (0 + 1 + 1 + 1) 2).length = 2 := by rfl

theorem tok_at {w : World} {B : Nat} {v : Value} {R : List Tk} (h : w.ownsRow B 32 4 v R.length (tflat R)) {q : Nat} (hq : q < R.length) :
    ∃ g c, v = .slice (some ⟨g, 0, none⟩) R.length c ∧ B ≤ g ∧ g < w.heap.size ∧ w.cell? ⟨g, q * 4, none⟩ = some (.int .i64 R[q].id) ∧ w.cell? ⟨g, q * 4 + 1, none⟩ = some (.int .i64 R[q].parent) ∧ w.cell? ⟨g, q * 4 + 2, none⟩ = some (.int .i64 R[q].node) ∧ w.cell? ⟨g, q * 4 + 3, none⟩ = some (.int .i64 R[q].fact) := by
  rcases h.2 with ⟨_, e0⟩ | ⟨g, cap, cur, e, hb, hg, _⟩
  · omega
  · have hc := fun i u hu => World.ownsRow.cells h (g := g) (by rw [e]; rfl) i u hu
    obtain ⟨k0, k1, k2, k3⟩ := tflat_get R q hq
    have h0 := hc _ _ k0
    have h1 := hc _ _ k1
    have h2 := hc _ _ k2
    have h3 := hc _ _ k3
    rw [Addr.add_lit, Nat.zero_add] at h0 h1 h2 h3
    exact ⟨g, cap, e, hb, lt_of_heap hg, h0, h1, h2, h3⟩

theorem nis_two (w : World) (a b : Int) : NIs (w.alloc (.cells #[.int .i64 a, .int .i64 b] 3)) (.slice (some ⟨w.heap.size, 0, none⟩) 2 2) [a, b] := by
  refine ⟨by simp, .inl ⟨_, 0, 2, rfl, fun i hi => ?_⟩⟩
  have hc := heap_alloc0 w (.cells #[.int .i64 a, .int .i64 b] 3)
  rcases i with _ | _ | i
  · exact cellAt (i := 0) hc rfl
  · exact cellAt (i := 1) hc rfl
  · simp at hi
    omega

set_option maxRecDepth 100000 in
set_option maxHeartbeats 4000000 in
theorem known21 (w : World) : Calls Try.prog 11 #[] w fun e w' => e = .returned (.bool true) ∧ Below w.heap.size w w' := by
  go_enter Try.func11, Try.ntmps11
  go_wp2_with fail
  (with_reducible refine (ASt.new w).mono ?_)
  rintro e V0 ⟨A, rfl, h0⟩
  have H := hide (h0.add (by omega) 0 1 7)
  clear h0
  go_wp2_with fail
  (with_reducible refine H.out.mono ?_)
  rintro e V1 ⟨id, er, A1, rfl, hto, hor⟩
  clear H
  rcases hor with ⟨rfl, rfl, T', hT', h1⟩ | ⟨_, _, hT', _⟩
  case inr => rw [kadd1] at hT'; cases hT'
  rw [kadd1] at hT'
  cases hT'
  have e1 := hto.a
  have H := hide (h1.add (by omega) 1 2 0)
  rw [e1] at H
  clear h1 hto
  go_wp2_with fail
  (with_reducible refine H.out.mono ?_)
  rintro e V2 ⟨id, er, A2, rfl, hto, hor⟩
  clear H
  rcases hor with ⟨rfl, rfl, T', hT', h2⟩ | ⟨_, _, hT', _⟩
  case inr => rw [kadd2] at hT'; cases hT'
  rw [kadd2] at hT'
  cases hT'
  have e2 := hto.a.trans e1
  have H := hide (h2.add (by omega) 2 3 9)
  rw [e2] at H
  clear h2 hto
  go_wp2_with fail
  (with_reducible refine H.out.mono ?_)
  rintro e V3 ⟨id, er, A3, rfl, hto, hor⟩
  clear H
  rcases hor with ⟨rfl, rfl, T', hT', h3⟩ | ⟨_, _, hT', _⟩
  case inr => rw [kadd3] at hT'; cases hT'
  rw [kadd3] at hT'
  cases hT'
  have e3 := hto.a.trans e2
  have hl3 : (0 : Int) + 1 + 1 + 1 < 1000 := by omega
  have H := hide (tadd_none h3.ar 9 1 1 (show getT k3 9 = none from rfl))
  rw [e3] at H
  have H3 := hide h3
  clear h3 hto
  go_wp2_with fail
  (with_reducible refine H.out.mono ?_)
  rintro e V4 ⟨rfl, hb⟩
  have h4 := H3.out.below' hb
  have H := hide (ttuple_any h4.ar h4.tree hl3 3)
  rw [e3, ktup] at H
  have H4 := hide h4
  clear h4 hb H3
  go_wp2_with fail
  (with_reducible refine H.out.mono ?_)
  rintro e V5 ⟨vt, rfl, hrt, hb⟩
  have h5 := H4.out.below' hb
  have H := hide (h5.rem 2)
  rw [e3] at H
  obtain ⟨ta, tc, rfl⟩ := row_form hrt
  have hrt5 := owns_base (B' := w.heap.size) hrt H4.out.below.size
  have H5 := hide h5
  have Hrt := hide hrt5
  have hfo : Hid (∀ k, A3.foot k → k < V4.heap.size) := hide fun k hk => H4.out.ar.lt hk
  have Hrl := hide hrt
  clear h5 hb H4 hrt hrt5
  go_wp2_with fail
  (with_reducible refine H.out.mono ?_)
  rintro e V6 ⟨vr, R, A4, rfl, hrow, hperm, hsor, hto, h6⟩
  have e4 := hto.a.trans e3
  obtain ⟨ra, rc, rfl⟩ := row_form hrow
  have hids : R.map Tk.id = [2, 3] := by
    have hp := hperm.map Tk.id
    rw [kgone] at hp
    have h1 := rise_unique hp (by rw [List.pairwise_map]; exact hsor)
    rw [h1]
    exact rise_self (by decide)
  have hRl : R.length = 2 := by have := congrArg List.length hids; simpa using this
  have hR1 : ∀ h : 1 < R.length, R[1].id = 3 := fun h => by
    have := congrArg (fun q => q[1]?) hids
    simpa [h] using this
  have hrt6 : V6.ownsRow V4.heap.size 3 1 (.slice ta [7, 9].length tc) [7, 9].length ([7, 9].map (.int .i64)) := owns_only Hrl.out hto.only fun k hk q => by
    have := (Hrl.out.lt k hk).1
    have := hfo.out k (Ar.mem_all.1 q)
    omega
  have Hnt := hide (NIs.of_row (by simp) hrt6)
  have Hrow := hide hrow
  have HR1 := hide hR1
  have H6 := hide h6
  clear hrow hperm hsor hto hids h6 hrt6 H hfo H5 Hrt Hrl hR1
  obtain ⟨g, gc, eg, _, _, d0, _⟩ := tok_at Hrow.out (q := 1) (by omega)
  rw [HR1.out] at d0
  injection eg with eg1 eg2 eg3
  subst eg1
  clear eg2 eg3
  have hgl := lt_of_cell d0
  have Hd := hide d0
  clear d0 Hrow HR1
  rw [hRl]
  simp only [List.length_cons, List.length_nil, Nat.zero_add, Nat.reduceAdd] at Hnt ⊢
  go_wp2_with fail
  have hbA : Below V6.heap.size V6 (V6.alloc (.cells #[.int .i64 7, .int .i64 9] 3)) := ((Only.refl [] V6).alloc _).below
  refine (ints_any _ _ [7, 9] [7, 9] _ (Hnt.out.below hbA) (nis_two V6 7 9)).mono ?_
  rintro e X ⟨rfl, nn, hX⟩
  have hbX : Below V6.heap.size V6 X := by rw [hX]; exact hbA.trans (((Only.refl [] _).drewN nn).below.mono hbA.size)
  have d1 := (hbX.cell (p := ⟨g, 1 * 4, none⟩) hgl).trans Hd.out
  have h7 := H6.out.below' hbX
  have Hl := hide (tlen_any h7.ar)
  rw [e4, krem] at Hl
  have H7 := hide h7.below
  have hdd : decide (([7, 9] : List Int) = [7, 9]) = true := by decide
  rw [hdd]
  clear hX hbX h7 hbA Hd H6 Hnt
  go_wp2_with fail
  (with_reducible refine Hl.out.mono ?_)
  rintro e Y ⟨rfl, rfl⟩
  go_wp2
  go_ret
  exact ⟨rfl, H7.out⟩
end Go.Proofs.Ytmcajoccfbebiaa
