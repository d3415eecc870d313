/- Copy: another book that says the same. -/
import Derived.Test.YtmcajoccfbebiaaTr9
import Derived.Test.YtmcajoccfbebiaaMapC
import Derived.Shelf.SlMaps.Clone
namespace Go.Proofs.Ytmcajoccfbebiaa
open Go Go.RowKit Go.MapKept Go.Sort Go.Shelf

theorem copy_any (b m : Nat) (M : List Sp) (w : World) (h : BookIs w b m M) :
    Calls Try.prog 43 #[.pointer (some ⟨b, 0, none⟩)] w fun e w' => ∃ b' m', e = .returned (.pointer (some ⟨b', 0, none⟩)) ∧ BookIs w' b' m' M ∧ Below w.heap.size w w' ∧ w.heap.size ≤ b' ∧ w.heap.size ≤ m' := by
  obtain ⟨es, clock, h1, h2, h3⟩ := h.map
  have c0 := (cells1b h.blk).1
  have hcl : Calls Try.prog 80 #[.map (some m)] w _ := AnyW.maps_Clone Try.cloneM m es clock w h1
  have hb1 : Below w.heap.size w (w.alloc (.map es clock)) := ((Only.refl [] w).alloc _).below
  have hb2 : Below w.heap.size w ((w.alloc (.map es clock)).alloc (Obj.cells #[.map (some w.heap.size)] 88)) := (((Only.refl [] w).alloc _).alloc _).below
  have hF : BookIs ((w.alloc (.map es clock)).alloc (Obj.cells #[.map (some w.heap.size)] 88)) (w.heap.size + 1) w.heap.size M := by
    refine ⟨?_, ?_, fun p hp => (h.js p hp).keeps (KeepsCells.below hb2), h.wf, h.len⟩
    · simpa using (MapKept.heap_alloc (w.alloc (.map es clock)) _).1
    · exact IMap.only ⟨es, clock, (MapKept.heap_alloc w _).1, h2, h3⟩ ((Only.refl [] _).alloc _) (by simp)
  have Hcl := hide hcl
  have HF := hide hF
  have Hb2 := hide hb2
  clear hcl hb1 hb2 hF h h1 h2 h3
  go_enter Try.func43, Try.ntmps43
  go_wp2_with (go_at_call 53; refine (none_some b m _ c0).mono ?_; rintro e w' ⟨rfl, rfl⟩)
  (with_reducible refine Hcl.out.mono ?_)
  rintro e w' ⟨rfl, rfl⟩
  go_wp2
  go_ret
  exact ⟨_, _, rfl, HF.out, Hb2.out, by omega, by omega⟩
end Go.Proofs.Ytmcajoccfbebiaa
