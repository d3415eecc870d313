/- Tokens: New, Add. -/
import Derived.Test.YtmcajoccfbebiaaTk2
namespace Go.Proofs.Ytmcajoccfbebiaa
open Go Go.RowKit Go.MapKept Go.Sort

def zeroTk : Tk := ⟨0, -1, 0, 0⟩
theorem sets_new (w : World) : SetsIs (w.alloc (.map #[] 0)) w.heap.size [] (fun _ => []) :=
  ⟨IMap.new w, by simp, by simp, fun n b h => by simp [getK] at h, fun _ _ => rfl⟩

set_option maxRecDepth 100000 in
set_option maxHeartbeats 1000000 in
theorem tnew_any (w : World) : Calls Try.prog 18 #[] w fun e w' => ∃ A : Ar, e = .returned (.pointer (some ⟨A.a, 0, none⟩)) ∧ ArIs w' A [zeroTk] 0 ∧ Below w.heap.size w w' ∧ ∀ k, A.foot k → w.heap.size ≤ k := by
  have hmm := @run_makeMap Try.prog
  obtain ⟨w1, hrun1, hm1, ho1, hsz1⟩ := run_mapUpdate (P := Try.prog) (t := 76) Try.underlying76 Try.underlying3 (IMap.new w) 0 zeroTk.val
  rw [World.size_alloc] at hsz1
  have hm1' : IMap w1 w.heap.size ([zeroTk].map Tk.pair) := hm1
  have hb1 : Below w.heap.size w w1 := below_only (((Only.refl [] w).alloc _).below) ho1 (by simp) (by simp)
  obtain ⟨o2, ho2⟩ : ∃ o, Obj.cells #[.int .i64 0, .map (some w.heap.size), .map (some w1.heap.size), .map (some (w1.heap.size + 1)), .map (some (w1.heap.size + 2))] 80 = o := ⟨_, rfl⟩
  obtain ⟨W2, hW2⟩ : ∃ W2, w1.alloc (.map #[] 0) = W2 := ⟨_, rfl⟩
  obtain ⟨W3, hW3⟩ : ∃ W3, W2.alloc (.map #[] 0) = W3 := ⟨_, rfl⟩
  obtain ⟨W4, hW4⟩ : ∃ W4, W3.alloc (.map #[] 0) = W4 := ⟨_, rfl⟩
  obtain ⟨W5, hW5⟩ : ∃ W5, W4.alloc o2 = W5 := ⟨_, rfl⟩
  have z2 : W2.heap.size = w1.heap.size + 1 := by rw [← hW2]; simp
  have z3 : W3.heap.size = w1.heap.size + 2 := by rw [← hW3]; simp [z2]
  have z4 : W4.heap.size = w1.heap.size + 3 := by rw [← hW4]; simp [z3]
  have s2 : SetsIs W2 w1.heap.size [] (fun _ => []) := by rw [← hW2]; exact sets_new w1
  have b2 : Only [] w1 W2 := by rw [← hW2]; exact (Only.refl [] _).alloc _
  have s3 : SetsIs W3 (w1.heap.size + 1) [] (fun _ => []) := by rw [← hW3, ← z2]; exact sets_new W2
  have b3 : Only [] W2 W3 := by rw [← hW3]; exact (Only.refl [] _).alloc _
  have s4 : SetsIs W4 (w1.heap.size + 2) [] (fun _ => []) := by rw [← hW4, ← z3]; exact sets_new W3
  have b4 : Only [] W3 W4 := by rw [← hW4]; exact (Only.refl [] _).alloc _
  have b5 : Only [] W4 W5 := by rw [← hW5]; exact (Only.refl [] _).alloc _
  have hbx : W5.heap[w1.heap.size + 3]? = some o2 := by rw [← hW5, ← z4]; exact heap_alloc0 W4 o2
  have hAr : Ar4 W5 ⟨w1.heap.size + 3, w.heap.size, w1.heap.size, w1.heap.size + 1, w1.heap.size + 2, [], [], []⟩ [zeroTk] (fun _ => []) (fun _ => []) (fun _ => []) 0 := by
    refine ⟨hbx.trans (by rw [← ho2]), (((hm1'.only b2 (by simp)).only b3 (by simp)).only b4 (by simp)).only b5 (by simp), ((s2.only b3 (by simp)).only b4 (by simp)).only b5 (by simp), (s3.only b4 (by simp)).only b5 (by simp), s4.only b5 (by simp), ?_, ?_, ?_⟩
    · intro k hk
      simp only [blks, List.map_nil, List.mem_singleton] at hk ⊢
      omega
    · intro k hk
      simp only [blks, List.map_nil, List.mem_singleton] at hk ⊢
      omega
    · intro k hk
      simp only [blks, List.map_nil, List.mem_singleton] at hk ⊢
      omega
  have hadd := sadd_any (w1.heap.size + 1) [] (fun _ => []) 0 0 W5 hAr.at' (by simp)
  have hbw : Below w.heap.size w W5 := hb1.trans ((((b2.trans b3).trans b4).trans b5).below.mono (by omega))
  have c3 : W5.cell? ⟨w1.heap.size + 3, 3, none⟩ = some (.map (some (w1.heap.size + 1))) := (cells5 hAr.blk).2.2.2.1
  have key : Hid (∀ V K', SetsIs V (w1.heap.size + 1) K' (fun m => if m = 0 then [] ++ [0] else []) → Only (blks (w1.heap.size + 1) []) W5 V → (∀ k ∈ blks (w1.heap.size + 1) K', k ∈ blks (w1.heap.size + 1) [] ∨ W5.heap.size ≤ k) →
      ArIs V ⟨w1.heap.size + 3, w.heap.size, w1.heap.size, w1.heap.size + 1, w1.heap.size + 2, [], K', []⟩ [zeroTk] 0 ∧ Below w.heap.size w V ∧ ∀ k, Ar.foot ⟨w1.heap.size + 3, w.heap.size, w1.heap.size, w1.heap.size + 1, w1.heap.size + 2, [], K', []⟩ k → w.heap.size ≤ k) := hide fun V K' hs ho hf => by
    have h4 := hAr.setA hs ho hf
    have e1 : (fun _ : Int => ([] : List Int)) = ofG kG [zeroTk] := by
      funext n
      simp [ofG, kG, zeroTk]
    have e2 : (fun m : Int => if m = 0 then ([] : List Int) ++ [0] else []) = ofG aG [zeroTk] := by
      funext n
      by_cases h : n = 0
      · subst h
        simp [ofG, aG, zeroTk]
      · have h' : ¬ (0 : Int) = n := fun q => h q.symm
        simp [ofG, aG, zeroTk, h, h']
    have e3 : (fun _ : Int => ([] : List Int)) = ofG wG [zeroTk] := by
      funext n
      simp [ofG, wG, zeroTk]
    have h5 : Ar4 V ⟨w1.heap.size + 3, w.heap.size, w1.heap.size, w1.heap.size + 1, w1.heap.size + 2, [], K', []⟩ [zeroTk] (ofG kG [zeroTk]) (ofG aG [zeroTk]) (ofG wG [zeroTk]) 0 := by
      rw [← e1, ← e2, ← e3]
      exact h4
    have z5 := hbw.size
    refine ⟨⟨h5, by simp, by simp [zeroTk]⟩, below_only hbw ho (by simp [blks]; omega) z5, fun k hk => ?_⟩
    rcases hk with rfl | rfl | hk | hk | hk
    · simp only
      omega
    · exact Nat.le_refl _
    · simp only [blks, List.map_nil, List.mem_singleton] at hk
      omega
    · rcases hf k hk with q | q
      · simp only [blks, List.map_nil, List.mem_singleton] at q
        omega
      · omega
    · simp only [blks, List.map_nil, List.mem_singleton] at hk
      omega
  have Hadd := hide hadd
  have hv : zeroTk.val = .agg #[.int .i64 0, .int .i64 (-1), .int .i64 0, .int .i64 0] := rfl
  rw [hv] at hrun1
  clear hAr hadd hbw s2 s3 s4 b2 b3 b4 b5 hbx hb1 hm1 hm1' ho1 hsz1 z2 z3 z4 hv
  subst ho2 hW5 hW4 hW3 hW2
  go_enter Try.func18, Try.ntmps18
  go_wp2_with fail
  (with_reducible refine Hadd.out.mono ?_)
  rintro e V ⟨rfl, K', hs, ho, hf⟩
  have HF := hide (key.out V K' hs ho hf)
  clear hs ho hf Hadd key
  go_wp2
  go_ret
  exact ⟨_, rfl, HF.out⟩
end Go.Proofs.Ytmcajoccfbebiaa
