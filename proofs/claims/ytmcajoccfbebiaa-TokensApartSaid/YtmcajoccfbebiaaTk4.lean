/- Tokens: Add. -/
import Derived.Test.YtmcajoccfbebiaaTk3
namespace Go.Proofs.Ytmcajoccfbebiaa
open Go Go.RowKit Go.MapKept Go.Sort

theorem ofG_snoc (g : Tk → Option Int) (T : List Tk) (t : Tk) : ofG g (T ++ [t]) = fun m => if g t = some m then ofG g T m ++ [t.id] else ofG g T m := by
  funext m
  unfold ofG
  rw [List.filter_append]
  by_cases h : g t = some m
  · simp [h]
  · simp [h]
theorem notin_of {T : List Tk} {last : Int} (h : ∀ t ∈ T, t.id ≤ last) (g : Tk → Option Int) (n : Int) : last + 1 ∉ ofG g T n := fun q => by
  obtain ⟨t, ht, _, e⟩ := ofG_mem.1 q
  have := h t ht
  omega
theorem ofG_snoc2 {g : Tk → Option Int} (T : List Tk) (t : Tk) {n : Int} (h : g t = some n) : ofG g (T ++ [t]) = fun m => if m = n then ofG g T n ++ [t.id] else ofG g T m := by
  rw [ofG_snoc]
  funext m
  by_cases e : m = n
  · subst e
    rw [if_pos h, if_pos rfl]
  · rw [if_neg e, if_neg (by rw [h]; exact fun q => e (by injection q with q; exact q.symm))]
theorem ofG_snoc3 {g : Tk → Option Int} (T : List Tk) (t : Tk) (h : g t = none) : ofG g (T ++ [t]) = ofG g T := by
  rw [ofG_snoc]
  funext m
  rw [if_neg (by rw [h]; exact fun q => by cases q)]
theorem all_a (A : Ar) : ∀ k ∈ [A.a], k ∈ A.all := fun k hk => by
  simp only [List.mem_singleton] at hk
  exact Ar.mem_all.2 (.inl hk)
theorem all_b (A : Ar) : ∀ k ∈ [A.mb], k ∈ A.all := fun k hk => by
  simp only [List.mem_singleton] at hk
  exact Ar.mem_all.2 (.inr (.inl hk))
theorem all_k (A : Ar) : ∀ k ∈ blks A.mki A.Kk, k ∈ A.all := fun _ hk => Ar.mem_all.2 (.inr (.inr (.inl hk)))
theorem all_at (A : Ar) : ∀ k ∈ blks A.ma A.Ka, k ∈ A.all := fun _ hk => Ar.mem_all.2 (.inr (.inr (.inr (.inl hk))))
theorem all_w (A : Ar) : ∀ k ∈ blks A.mw A.Kw, k ∈ A.all := fun _ hk => Ar.mem_all.2 (.inr (.inr (.inr (.inr hk))))
theorem ArIs.add {w V : World} {A : Ar} {T : List Tk} {last p n f : Int} {Kk Ka Kw : List (Int × Nat)} {Fw : Int → List Int} (h : ArIs w A T last) (hl0 : 0 ≤ last) (hl1 : last < 900) (hlen : T.length < 900)
    (h4 : Ar4 V { A with Kk := Kk, Ka := Ka, Kw := Kw } (T ++ [⟨last + 1, p, n, f⟩]) (fun m => if m = p then ofG kG T p ++ [last + 1] else ofG kG T m) (fun m => if m = n then ofG aG T n ++ [last + 1] else ofG aG T m) Fw (last + 1)) (hw : Fw = ofG wG (T ++ [⟨last + 1, p, n, f⟩])) :
    ArIs V { A with Kk := Kk, Ka := Ka, Kw := Kw } (T ++ [⟨last + 1, p, n, f⟩]) (last + 1) := by
  subst hw
  refine ⟨?_, by simp; omega, fun t ht => ?_⟩
  · rw [ofG_snoc2 (g := kG) T ⟨last + 1, p, n, f⟩ (n := p) (by unfold kG; rw [if_neg (by simp only; omega)]), ofG_snoc2 (g := aG) T ⟨last + 1, p, n, f⟩ (n := n) rfl]
    exact h4
  · rcases List.mem_append.1 ht with q | q
    · exact h.ids t q
    · rw [List.mem_singleton.1 q]
      simp only
      omega

section
variable {w : World} {A : Ar} {T : List Tk} {last : Int}
set_option maxRecDepth 100000 in
theorem tadd_none (h : ArIs w A T last) (p n f : Int) (hp : getT T p = none) :
    Calls Try.prog 17 #[.pointer (some ⟨A.a, 0, none⟩), .int .i64 p, .int .i64 n, .int .i64 f] w fun e w' => e = .returned (.tuple #[.int .i64 0, .int .i64 5]) ∧ Below w.heap.size w w' := by
  obtain ⟨c0, c1, c2, c3, c4, _⟩ := cells5 h.r.blk
  have hl := run_lookup (P := Try.prog) (t := 76) Try.underlying76 Try.underlying3 h.r.by' (zero_tk _) p
  rw [look_T, hp] at hl
  simp only [Option.map_none, looked] at hl
  clear h hp c0 c2 c3 c4
  go_enter Try.func17, Try.ntmps17
  go_wp2
  go_ret2
  exact ⟨rfl, ((Only.refl [] w).alloc _).below⟩
set_option maxRecDepth 100000 in
theorem tadd_bad (h : ArIs w A T last) (p n f : Int) {t : Tk} (hp : getT T p = some t) (hb : n < 0 ∨ f < 0) :
    Calls Try.prog 17 #[.pointer (some ⟨A.a, 0, none⟩), .int .i64 p, .int .i64 n, .int .i64 f] w fun e w' => e = .returned (.tuple #[.int .i64 0, .int .i64 2]) ∧ Below w.heap.size w w' := by
  obtain ⟨c0, c1, c2, c3, c4, _⟩ := cells5 h.r.blk
  have hl := run_lookup (P := Try.prog) (t := 76) Try.underlying76 Try.underlying3 h.r.by' (zero_tk _) p
  rw [look_T, hp] at hl
  obtain ⟨t0, t1, t2, t3⟩ := t
  simp only [Option.map_some, looked, Tk.val] at hl
  by_cases hn : n < 0
  · clear h hp c0 c2 c3 c4 hb
    go_enter Try.func17, Try.ntmps17
    go_wp2
    go_ret2
    exact ⟨rfl, ((Only.refl [] w).alloc _).below⟩
  · have hn2 : decide (n < 0) = false := by simpa using hn
    have hf : f < 0 := by omega
    clear h hp c0 c2 c3 c4 hb hn
    go_enter Try.func17, Try.ntmps17
    go_wp2
    go_ret2
    exact ⟨rfl, ((Only.refl [] w).alloc _).below⟩

set_option maxRecDepth 100000 in
set_option maxHeartbeats 4000000 in
theorem tadd_ok (h : ArIs w A T last) (p n f : Int) {t : Tk} (hp : getT T p = some t) (hn : 0 ≤ n) (hf : 0 ≤ f) (hl0 : 0 ≤ last) (hl1 : last < 900) (hlen : T.length < 900) (hid : ∀ t ∈ T, t.id ≤ last) :
    Calls Try.prog 17 #[.pointer (some ⟨A.a, 0, none⟩), .int .i64 p, .int .i64 n, .int .i64 f] w fun e w' => e = .returned (.tuple #[.int .i64 (last + 1), .int .i64 0]) ∧
      ∃ A' : Ar, A'.a = A.a ∧ ArIs w' A' (T ++ [⟨last + 1, p, n, f⟩]) (last + 1) ∧ Only A.all w w' ∧ ∀ k, A'.foot k → A.foot k ∨ w.heap.size ≤ k := by
  obtain ⟨c0, c1, c2, c3, c4, fz⟩ := cells5 h.r.blk
  have hl := run_lookup (P := Try.prog) (t := 76) Try.underlying76 Try.underlying3 h.r.by' (zero_tk _) p
  rw [look_T, hp] at hl
  obtain ⟨t0, t1, t2, t3⟩ := t
  simp only [Option.map_some, looked, Tk.val] at hl
  have hn2 : decide (n < 0) = false := by simp; omega
  have hf2 : decide (f < 0) = false := by simp; omega
  have hbA := lt_of_heap h.r.blk
  have hasc : (last + 1) ∉ T.map Tk.id := fun q => by
    obtain ⟨t, ht, e⟩ := List.mem_map.1 q
    have := hid t ht
    omega
  obtain ⟨W8, hW8⟩ : ∃ W8, ((w.setCell ⟨A.a, 0, none⟩ (.int .i64 (last + 1))).alloc (.cells #[.int .i64 t0, .int .i64 t1, .int .i64 t2, .int .i64 t3] 32)).drew = W8 := ⟨_, rfl⟩
  have ho8 : Only [A.a] w W8 := by
    rw [← hW8]
    exact Only.drew (((Only.refl [A.a] w).setCell (.inl (by simp)) _).alloc _)
  obtain ⟨n1, n2, n3, n4⟩ := h.r.ane
  have h8 : Ar4 W8 A T (ofG kG T) (ofG aG T) (ofG wG T) (last + 1) := by
    refine ⟨?_, h.r.by'.only ho8 (by simpa using n1.symm), h.r.kids.only ho8 fun k hk => by simp only [List.mem_singleton]; rintro rfl; exact n2 hk, h.r.at'.only ho8 fun k hk => by simp only [List.mem_singleton]; rintro rfl; exact n3 hk, h.r.wit.only ho8 fun k hk => by simp only [List.mem_singleton]; rintro rfl; exact n4 hk, h.r.dk, h.r.da, h.r.dw⟩
    rw [← hW8]
    refine (Below.heap_alloc _ _ A.a (by simpa using hbA)).trans ?_
    exact (setCell_heap (i := 0) (u := .int .i64 (last + 1)) h.r.blk).trans (by simp)
  have hput := put_new (l := T.map Tk.pair) (k := last + 1) (Tk.val ⟨last + 1, p, n, f⟩) (by
    rw [look_T]
    have : getT T (last + 1) = none := by
      unfold getT
      rw [List.find?_eq_none]
      intro t ht
      have := hid t ht
      simp
      omega
    rw [this]
    rfl)
  obtain ⟨w9, hrun9, hm9, ho9, hsz9⟩ := run_mapUpdate (P := Try.prog) (t := 76) Try.underlying76 Try.underlying3 h8.by' (last + 1) (Tk.val ⟨last + 1, p, n, f⟩)
  rw [hput] at hm9
  have h9 := h8.setB (T' := T ++ [⟨last + 1, p, n, f⟩]) (by rw [List.map_append]; exact hm9) ho9
  simp only [Tk.val] at hrun9
  obtain ⟨d0, d1, _, _, _, _⟩ := cells5 h8.blk
  have H9 := hide h9
  have HO8 := hide ho8
  have HO9 := hide ho9
  have H := hide h
  have Hid0 := hide hid
  clear c2 c3 c4 h h8 h9 ho8 ho9 hm9 hput hasc hid n1 n2 n3 n4 hp hsz9
  go_enter Try.func17, Try.ntmps17
  subst hW8
  go_upto_region 9 with fail
  go_region
  all_goals
    clear d0 d1 hrun9 c0 c1 fz hl
    have h9 := H9.out.below (Only.drew (Only.refl [] w9)).below
    obtain ⟨d0, _, d2, _, _, _⟩ := cells5 h9.blk
    have HS := hide (sadd_any A.mki A.Kk (ofG kG T) p (last + 1) w9.drew h9.kids (notin_of Hid0.out kG p))
    clear h9
    go_wp2_with fail
    go_region_held3 (fun V => V.cell? ⟨A.a, 0, none⟩ = some (.int .i64 (last + 1)) ∧ V.cell? ⟨A.a, 2, none⟩ = some (.map (some A.mki))) (go_keep)
      ((go_at_call 52; have hqq := HS.out; (with_reducible refine Calls.mono hqq ?_); clear hqq; rintro e V1 ⟨rfl, Kk, hs, ho, hf⟩; have H10 := hide ((H9.out.below (Only.drew (Only.refl [] w9)).below).setK hs ho hf); have HO10 := hide ho; have HF10 := hide hf; clear hs ho hf d0 d2; obtain ⟨p0, _, p2, _, _, _⟩ := cells5 H10.out.blk; simp only at p0 p2))
    clear HS H9 p0 p2
    have h9 := H10.out.below (Only.drew (Only.refl [] V1)).below
    obtain ⟨d0, _, _, d3, _, _⟩ := cells5 h9.blk
    have HS := hide (sadd_any A.ma A.Ka (ofG aG T) n (last + 1) V1.drew h9.at' (notin_of Hid0.out aG n))
    clear h9
    simp only at d0 d3
    go_wp2_with fail
    go_region_held3 (fun V => V.cell? ⟨A.a, 0, none⟩ = some (.int .i64 (last + 1)) ∧ V.cell? ⟨A.a, 3, none⟩ = some (.map (some A.ma))) (go_keep)
      ((go_at_call 52; have hqq := HS.out; (with_reducible refine Calls.mono hqq ?_); clear hqq; rintro e V2 ⟨rfl, Ka, hs, ho, hf⟩; have H11 := hide ((H10.out.below (Only.drew (Only.refl [] V1)).below).setA hs ho hf); have HO11 := hide ho; have HF11 := hide hf; clear hs ho hf d0 d3; obtain ⟨p0, _, _, p3, _, _⟩ := cells5 H11.out.blk; simp only at p0 p3))
    clear HS H10 p0 p3
    have HO : Hid (Only A.all w V2) := hide ((((HO8.out.mono (all_a A)).trans (HO9.out.mono (all_b A))).trans ((Only.drew (Only.refl _ _)).trans (HO10.out.mono (all_k A)))).trans ((Only.drew (Only.refl _ _)).trans (HO11.out.mono (all_at A))))
    have HZ : Hid (w.heap.size ≤ w9.heap.size ∧ w9.heap.size ≤ V1.heap.size) := hide ⟨Nat.le_trans HO8.out.size HO9.out.size, HO10.out.size⟩
    clear HO8 HO9 HO10 HO11
    by_cases hf0 : 0 < f
    · have hf1 : decide (0 < f) = true := by simpa using hf0
      have h9 := H11.out.below (Only.drew (Only.refl [] V2)).below
      obtain ⟨d0, _, _, _, d4, _⟩ := cells5 h9.blk
      have HS := hide (sadd_any A.mw A.Kw (ofG wG T) f (last + 1) V2.drew h9.wit (notin_of Hid0.out wG f))
      clear h9
      simp only at d0 d4
      go_wp2_with fail
      go_region_held3 (fun V => V.cell? ⟨A.a, 0, none⟩ = some (.int .i64 (last + 1)) ∧ V.cell? ⟨A.a, 4, none⟩ = some (.map (some A.mw))) (go_keep)
        ((go_at_call 52; have hqq := HS.out; (with_reducible refine Calls.mono hqq ?_); clear hqq; rintro e V3 ⟨rfl, Kw, hs, ho, hf⟩; have H12 := hide ((H11.out.below (Only.drew (Only.refl [] V2)).below).setW hs ho hf); have HO12 := hide ho; have HF12 := hide hf; clear hs ho hf d0 d4; obtain ⟨p0, _, _, _, p4, _⟩ := cells5 H12.out.blk; simp only at p0 p4))
      clear p4 HS H11
      have HF : Hid (ArIs V3 { A with Kk := Kk, Ka := Ka, Kw := Kw } (T ++ [⟨last + 1, p, n, f⟩]) (last + 1)) := hide (H.out.add hl0 hl1 hlen H12.out (by
        rw [ofG_snoc2 (g := wG) T ⟨last + 1, p, n, f⟩ (n := f) (by unfold wG; rw [if_pos hf0])]))
      go_wp2
      go_ret2
      refine ⟨rfl, { A with Kk := Kk, Ka := Ka, Kw := Kw }, rfl, HF.out, HO.out.trans ((Only.drew (Only.refl _ _)).trans (HO12.out.mono (all_w A))), fun k hk => ?_⟩
      have z := HZ.out
      have z2 := HO.out.size
      rcases hk with q | q | q | q | q
      · exact .inl (.inl q)
      · exact .inl (.inr (.inl q))
      · exact (HF10.out k q).imp (fun r => .inr (.inr (.inl r))) (fun r => by have r : w9.heap.size ≤ k := r; omega)
      · exact (HF11.out k q).imp (fun r => .inr (.inr (.inr (.inl r)))) (fun r => by have r : V1.heap.size ≤ k := r; omega)
      · exact (HF12.out k q).imp (fun r => .inr (.inr (.inr (.inr r)))) (fun r => by have r : V2.heap.size ≤ k := r; omega)
    · have hf1 : decide (0 < f) = false := by simpa using hf0
      obtain ⟨p0, _, _, _, _, _⟩ := cells5 H11.out.blk
      simp only at p0
      have HF : Hid (ArIs V2 { A with Kk := Kk, Ka := Ka, Kw := A.Kw } (T ++ [⟨last + 1, p, n, f⟩]) (last + 1)) := hide (H.out.add hl0 hl1 hlen H11.out (by
        rw [ofG_snoc3 (g := wG) T ⟨last + 1, p, n, f⟩ (by unfold wG; rw [if_neg hf0])]))
      go_wp2
      go_ret2
      refine ⟨rfl, { A with Kk := Kk, Ka := Ka, Kw := A.Kw }, rfl, HF.out, HO.out, fun k hk => ?_⟩
      have z := HZ.out
      rcases hk with q | q | q | q | q
      · exact .inl (.inl q)
      · exact .inl (.inr (.inl q))
      · exact (HF10.out k q).imp (fun r => .inr (.inr (.inl r))) (fun r => by have r : w9.heap.size ≤ k := r; omega)
      · exact (HF11.out k q).imp (fun r => .inr (.inr (.inr (.inl r)))) (fun r => by have r : V1.heap.size ≤ k := r; omega)
      · exact .inl (.inr (.inr (.inr (.inr q))))
end
end Go.Proofs.Ytmcajoccfbebiaa
