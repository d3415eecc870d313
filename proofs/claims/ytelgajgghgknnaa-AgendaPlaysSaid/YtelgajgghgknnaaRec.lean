/- The closures of order.Compare. -/
import Derived.Test.YtelgajgghgknnaaCmp
import Derived.Deep.RegionHeld3
namespace Go.Proofs.Ytelgajgghgknnaa
open Go Go.RowKit Go.MapKept Go.Sort Go.Shelf

theorem NIs.drew {w : World} {x : Value} {l : List Int} (h : NIs w x l) : NIs w.drew x l := h

/-- The look at the tuples' vectors. -/
def recency (s : Int) (l m : List Int) : Int := if s = 2 then cmpL (vec s l) (vec s m) else - cmpL (vec s l) (vec s m)

set_option maxHeartbeats 1000000 in
theorem recency_any (s : Int) (ps pa pb : Nat) (xa xb : Value) (l m : List Int) (w : World) (hs : w.cell? ⟨ps, 0, none⟩ = some (.int .u8 s)) (ha : w.cell? ⟨pa, 1, none⟩ = some xa) (hb : w.cell? ⟨pb, 1, none⟩ = some xb) (hxa : NIs w xa l) (hxb : NIs w xb m) :
    Calls Try.prog 53 #[.pointer (some ⟨ps, 0, none⟩), .pointer (some ⟨pa, 0, none⟩), .pointer (some ⟨pb, 0, none⟩)] w fun e w' => e = .returned (.int .i64 (recency s l m)) ∧ Below w.heap.size w w' := by
  have ls := lt_of_cell hs
  have la := lt_of_cell ha
  have lb := lt_of_cell hb
  simp only at ls la lb
  obtain ⟨xaa, xac, rfl⟩ := hxa.form
  obtain ⟨xba, xbc, rfl⟩ := hxb.form
  have Hxa := hide hxa.drew
  have Hxb := hide hxb.drew
  have hsz : w.drew.heap.size = w.heap.size := rfl
  clear hxa hxb
  have Hs := hide (show w.drew.cell? ⟨ps, 0, none⟩ = some (.int .u8 s) from hs)
  have Ha := hide (show w.drew.cell? ⟨pa, 1, none⟩ = some (.slice xaa l.length xac) from ha)
  have Hb := hide (show w.drew.cell? ⟨pb, 1, none⟩ = some (.slice xba m.length xbc) from hb)
  have ls' : ps < w.drew.heap.size := ls
  have la' : pa < w.drew.heap.size := la
  have lb' : pb < w.drew.heap.size := lb
  go_enter Try.func53, Try.ntmps53
  go_wp2_with fail
  go_region_held3 (fun W => W.cell? ⟨ps, 0, none⟩ = some (.int .u8 s) ∧ W.cell? ⟨pa, 1, none⟩ = some (.slice xaa l.length xac) ∧ W.cell? ⟨pb, 1, none⟩ = some (.slice xba m.length xbc)) (go_keep)
    (first
      | (go_at_call 55; have hq := vector_any s _ l w.drew Hxa.out; with_reducible refine Calls.mono hq ?_; clear hq; rintro e w1a ⟨va, rfl, hva, _, hb1a⟩; obtain ⟨vaa, vac, rfl⟩ := hva.form; have z0 := (hb1a.cell (p := ⟨ps, 0, none⟩) ls').trans Hs.out; have z1 := (hb1a.cell (p := ⟨pa, 1, none⟩) la').trans Ha.out; have z2 := (hb1a.cell (p := ⟨pb, 1, none⟩) lb').trans Hb.out; have Hva := hide hva; have Hb1a := hide hb1a; clear hva hb1a)
      | (go_at_call 55; have hq := vector_any s _ m w.drew Hxb.out; with_reducible refine Calls.mono hq ?_; clear hq; rintro e w1b ⟨vb, rfl, hvb, _, hb1b⟩; obtain ⟨vba, vbc, rfl⟩ := hvb.form; have z0 := (hb1b.cell (p := ⟨ps, 0, none⟩) ls').trans Hs.out; have z1 := (hb1b.cell (p := ⟨pa, 1, none⟩) la').trans Ha.out; have z2 := (hb1b.cell (p := ⟨pb, 1, none⟩) lb').trans Hb.out; have Hvb := hide hvb; have Hb1b := hide hb1b; clear hvb hb1b)
      | (go_at_call 55; have hq := vector_any s _ m w1a (Hxb.out.below Hb1a.out); with_reducible refine Calls.mono hq ?_; clear hq; rintro e w2 ⟨vb, rfl, hvb, _, hb2⟩; obtain ⟨vba, vbc, rfl⟩ := hvb.form; have hb3 := Hb1a.out.trans (hb2.mono Hb1a.out.size); have y0 := (hb3.cell (p := ⟨ps, 0, none⟩) ls').trans Hs.out; have y1 := (hb3.cell (p := ⟨pa, 1, none⟩) la').trans Ha.out; have y2 := (hb3.cell (p := ⟨pb, 1, none⟩) lb').trans Hb.out; have Hb3 := hide hb3; have Hva2 := hide (Hva.out.below hb2); have Hvb2 := hide hvb; clear hvb hb2 hb3)
      | (go_at_call 55; have hq := vector_any s _ l w1b (Hxa.out.below Hb1b.out); with_reducible refine Calls.mono hq ?_; clear hq; rintro e w2 ⟨va, rfl, hva, _, hb2⟩; obtain ⟨vaa, vac, rfl⟩ := hva.form; have hb3 := Hb1b.out.trans (hb2.mono Hb1b.out.size); have y0 := (hb3.cell (p := ⟨ps, 0, none⟩) ls').trans Hs.out; have y1 := (hb3.cell (p := ⟨pa, 1, none⟩) la').trans Ha.out; have y2 := (hb3.cell (p := ⟨pb, 1, none⟩) lb').trans Hb.out; have Hb3 := hide hb3; have Hvb2 := hide (Hvb.out.below hb2); have Hva2 := hide hva; clear hva hb2 hb3)
      | (go_at_call 54; have hq := ncompare _ _ _ _ w2 Hva2.out Hvb2.out; with_reducible refine Calls.mono hq ?_; clear hq; rintro e w3 ⟨rfl, rfl⟩))
  all_goals
    have hr := cmpL_range (vec s l) (vec s m)
    have HB := hide (((Only.refl [] w).drew).trans (Only.of_below Hb3.out [])).below
    obtain ⟨q, hq⟩ : ∃ q, cmpL (vec s l) (vec s m) = q := ⟨_, rfl⟩
    rw [hq] at hr ⊢
    have Hq := hide hq
    clear hq Hs Ha Hb Hxa Hxb Hva2 Hvb2 Hb3
    by_cases h2 : s = 2
    · have h2b : (s == 2) = true := by simpa using h2
      have H2 := hide h2
      clear h2
      go_wp2
      go_ret
      exact ⟨by rw [recency, if_pos H2.out, Hq.out]; rfl, HB.out⟩
    · have h2b : (s == 2) = false := by simpa using h2
      have hneg : IntKind.i64.wrap (-q) = -q := IntWalk.i64_in _ (by omega)
      have H2 := hide h2
      clear h2
      go_wp2
      go_ret
      exact ⟨by rw [recency, if_neg H2.out, Hq.out]; rfl, HB.out⟩
end Go.Proofs.Ytelgajgghgknnaa
