/- The plain law of AgendaList. -/
import Derived.Test.YtelgajgghgknnaaGoneLaw
namespace Go.Proofs.Ytelgajgghgknnaa
open Go Go.RowKit Go.MapKept Go.Sort

theorem fired_mem : ∀ {l : List En}, Uniq l → ∀ e ∈ l, firedE l e.ac = e.fired
  | [], _, _, h => absurd h (by simp)
  | f :: l, hu, e, h => by
    obtain ⟨h1, h2⟩ := List.pairwise_cons.1 hu
    rw [firedE_cons]
    rcases List.mem_cons.1 h with rfl | h
    · rw [if_pos (same_of_co rfl)]
    · rw [h1 e h, if_neg (by simp)]
      exact fired_mem h2 e h

/-- Was it fired, by what it says. -/
def firedC (l : List En) (c : Co) : Bool := firedE l ⟨c.rule, c.tup, c.sal, .slice none 0 0⟩
theorem firedC_co (l : List En) (a : Ac) : firedC l a.co = firedE l a := fired_co2 rfl

theorem open_filter {l : List En} (hu : Uniq l) : (l.map fun e => e.ac.co).filter (fun c => !firedC l c) = open' l := by
  unfold open'
  rw [List.filter_map]
  congr 1
  refine List.filter_congr fun e he => ?_
  show (!firedC l e.ac.co) = !e.fired
  rw [firedC_co, fired_mem hu e he]

theorem rest_open {s : Int} {l : List En} {R : List Ac} (hu : Uniq l) (hR : R.map Ac.co = sortC s (l.map fun e => e.ac.co)) : (R.filter fun a => !firedE l a).map Ac.co = sortC s (open' l) := by
  have h1 : (R.filter fun a => !firedE l a).map Ac.co = (R.map Ac.co).filter (fun c => !firedC l c) := by
    rw [List.filter_map]
    rfl
  rw [h1, hR]
  refine sortC_unique s ?_ ((sortC_sorted s _).sublist List.filter_sublist)
  rw [← open_filter hu]
  exact (sortC_perm s _).filter _

theorem all_uniq {s : Int} {l : List En} {R : List Ac} (hu : Uniq l) (hR : R.map Ac.co = sortC s (l.map fun e => e.ac.co)) : R.Pairwise (fun a b => a.same b = false) := by
  have h1 : (l.map fun e => e.ac.co).Pairwise (fun c d => sameC c d = false) := List.pairwise_map.2 hu
  have h2 : (R.map Ac.co).Pairwise (fun c d => sameC c d = false) := by
    rw [hR]
    refine ((sortC_perm s _).pairwise_iff (fun {a b} hab => ?_)).2 h1
    have : sameC a b = sameC b a := same_comm ⟨a.rule, a.tup, a.sal, .slice none 0 0⟩ ⟨b.rule, b.tup, b.sal, .slice none 0 0⟩
    rw [← this]; exact hab
  exact List.pairwise_map.1 h2
theorem all_sorted {s : Int} {l : List En} {R : List Ac} (hR : R.map Ac.co = sortC s (l.map fun e => e.ac.co)) {q i : Nat} (hq : q < i) (hi : i < R.length) : decide (cmpA s R[i] R[q] < 0) = false := by
  have hs := sortC_sorted s (l.map fun e => e.ac.co)
  rw [← hR, List.pairwise_map, List.pairwise_iff_getElem] at hs
  have h1 := hs q i (by omega) hi hq
  rw [← cmpA_co] at h1
  have := (cmp_act s).anti R[q] R[i]
  exact decide_eq_false (by omega)
theorem all_has {s : Int} {l : List En} {R : List Ac} (hR : R.map Ac.co = sortC s (l.map fun e => e.ac.co)) : ∀ a ∈ R, hasE l a = true := fun a ha => by
  have h1 : a.co ∈ R.map Ac.co := List.mem_map.2 ⟨a, ha, rfl⟩
  rw [hR, sortC_mem] at h1
  obtain ⟨e, he, hc⟩ := List.mem_map.1 h1
  exact List.any_eq_true.2 ⟨e, he, same_of_co hc⟩
end Go.Proofs.Ytelgajgghgknnaa
