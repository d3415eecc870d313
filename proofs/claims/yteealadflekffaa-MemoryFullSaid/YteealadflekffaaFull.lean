/- The walk of witanlaw05.MemoryFull: it returns true, whatever its two arguments. -/
import Derived.Test.YteealadflekffaaKnown5
namespace Go.Proofs.Yteealadflekffaa
open Go Go.RowKit Go.MapKept

theorem fact_any (i : Int) (w : World) : Calls Try.prog 10 #[.int .i64 i] w fun e w' => e = .returned (.slice (some ⟨w.heap.size, 0, none⟩) 1 1) ∧ w' = w.alloc (.cells #[.int .u8 1, .int .i64 i, .string ⟨#[]⟩] 28) := by
  go_enter Try.func10, Try.ntmps10
  go_wp2
  go_ret
  exact ⟨rfl, rfl⟩

/-- The values of the fact i. -/
def fv (i : Int) : List Vl := [⟨1, i, ⟨#[]⟩⟩]

/-- The memory of the limit n with the first k facts. -/
structure FullTo (n : Int) (k : Nat) (M : Mm) : Prop where
  lim : M.limit = n
  last : M.last = k
  l : M.l.map (fun f => (f.id, f.t, f.s)) = (List.range k).map (fun (i : Nat) => ((i : Int) + 1, (0 : Int), fv i))

theorem FullTo.mem {n : Int} {k : Nat} {M : Mm} (h : FullTo n k M) {f : Fc} (hf : f ∈ M.l) : ∃ i : Nat, i < k ∧ f.id = i + 1 ∧ f.t = 0 ∧ f.s = fv i := by
  have : (f.id, f.t, f.s) ∈ M.l.map (fun f => (f.id, f.t, f.s)) := List.mem_map.2 ⟨f, hf, rfl⟩
  rw [h.l] at this
  obtain ⟨i, hi, e⟩ := List.mem_map.1 this
  simp only [Prod.mk.injEq] at e
  exact ⟨i, by simpa using hi, e.1.symm, e.2.1.symm, e.2.2.symm⟩

theorem fv_inj {i j : Int} (h : fv i = fv j) : i = j := by
  simp only [fv, List.cons.injEq, Vl.mk.injEq] at h
  exact h.1.2.1

theorem FullTo.hit_none {n : Int} {k : Nat} {M : Mm} (h : FullTo n k M) {i : Int} (hi : (k : Int) ≤ i) : M.hit 0 (fv i) = none := by
  unfold Mm.hit
  rw [List.find?_eq_none]
  intro f hf
  obtain ⟨j, hj, _, _, e⟩ := h.mem hf
  have : f.s ≠ fv i := fun q => by have := fv_inj (e.symm.trans q); omega
  simp [this]

theorem FullTo.length {n : Int} {k : Nat} {M : Mm} (h : FullTo n k M) : M.l.length = k := by
  have := congrArg List.length h.l
  simpa using this

theorem FullTo.get {n : Int} {k : Nat} {M : Mm} (h : FullTo n k M) {i : Nat} (hi : i < k) : ∃ f ∈ M.l, f.id = i + 1 ∧ f.t = 0 ∧ f.s = fv i := by
  have : ((i : Int) + 1, (0 : Int), fv i) ∈ M.l.map (fun f => (f.id, f.t, f.s)) := by
    rw [h.l]
    exact List.mem_map.2 ⟨i, by simpa using hi, rfl⟩
  obtain ⟨f, hf, e⟩ := List.mem_map.1 this
  simp only [Prod.mk.injEq] at e
  exact ⟨f, hf, e.1, e.2.1, e.2.2⟩

theorem FullTo.add {n : Int} {k : Nat} {M : Mm} (h : FullTo n k M) (v : Value) : FullTo n (k + 1) (M.add 0 (fv k) v) :=
  ⟨h.lim, by simp [Mm.add, h.last], by simp [Mm.add, h.l, h.last, List.range_succ]⟩

theorem fact_step {w0 wr : World} {B b mm : Nat} {M : Mm} (hm : MemIs wr b mm M) (hB : Below B w0 wr) (hz : B ≤ wr.heap.size) (i : Int) (H : Nat) (hH : wr.heap.size = H) :
    MemIs (wr.alloc (.cells #[.int .u8 1, .int .i64 i, .string ⟨#[]⟩] 28)) b mm M ∧ Below B w0 (wr.alloc (.cells #[.int .u8 1, .int .i64 i, .string ⟨#[]⟩] 28)) ∧
    SlIs (wr.alloc (.cells #[.int .u8 1, .int .i64 i, .string ⟨#[]⟩] 28)) (.slice (some ⟨H, 0, none⟩) 1 1) (fv i) ∧ B ≤ (wr.alloc (.cells #[.int .u8 1, .int .i64 i, .string ⟨#[]⟩] 28)).heap.size :=
  ⟨hm.only ((Only.refl [] _).alloc _) (by simp) (by simp) (by simp), hB.alloc hz _, hH ▸ slIs_one (MapKept.heap_alloc wr _).1, by simp; omega⟩

theorem length_del : ∀ {l : List Fc}, l.Pairwise (fun f g => f.id < g.id) → ∀ {f : Fc}, f ∈ l → (l.filter (fun g => g.id != f.id)).length + 1 = l.length
  | [], _, _, h => by simp at h
  | a :: l, hp, f, hf => by
    rw [List.pairwise_cons] at hp
    rcases List.mem_cons.1 hf with rfl | hf'
    · have : l.filter (fun g => g.id != f.id) = l := List.filter_eq_self.2 fun g hg => by have := hp.1 g hg; simp; omega
      simp [this]
    · have := hp.1 f hf'
      have hne : (a.id != f.id) = true := by simp; omega
      have ih := length_del hp.2 hf'
      simp [hne, ih]

set_option maxRecDepth 100000 in
set_option maxHeartbeats 1000000 in
theorem full_walk (L G : Int) (hL0 : 0 ≤ L) (hL1 : L ≤ 255) (hG0 : 0 ≤ G) (hG1 : G ≤ 255) (w : World) :
    Calls Try.prog 3 #[.int .u8 L, .int .u8 G] w fun e w' => e = .returned (.bool true) ∧ Below w.heap.size w w' := by
  go_enter Try.func3, Try.ntmps3
  go_wp2_with fail
  obtain ⟨n, hn⟩ : ∃ n, 1 + L % 200 = n := ⟨_, rfl⟩
  have h1 : 1 ≤ n := by omega
  have h2 : n ≤ 200 := by omega
  rw [hn]
  clear hn hL0 hL1
  refine (new_any n h1 h2 _).mono ?_
  rintro e w1 ⟨b, mm, rfl, hm, hb, hbb, hmm⟩
  have Hm := hide hm
  have Hb := hide hb
  clear hm hb
  go_wp2_with fail
  go_loopw [39] (fun i wr => ∃ k : Nat, (k : Int) ≤ n ∧ i = .int .i64 k ∧ Hid (∃ M, MemIs wr b mm M ∧ MemOk M ∧ FullTo n k M) ∧ Hid (Below w.heap.size w wr)) (fun i _ => (n - intOf i).toNat)
  case atStart => exact ⟨0, by omega, rfl, ⟨_, Hm.out, memOk_new n h1 h2, rfl, rfl, rfl⟩, Hb.out⟩
  case round =>
    obtain ⟨k, hk, rfl, hM, hB⟩ := hrel
    obtain ⟨M, hm, hok, hfull⟩ := hM.out
    by_cases hlt : (k : Int) < n
    · have Hm := hide hm
      have Hok := hide hok
      have Hfull := hide hfull
      clear hm hok hfull hM
      go_wp2_with (go_at_call 10; refine (fact_any _ _).mono ?_; rintro e w' ⟨rfl, rfl⟩)
      have o1 : Only [] wr (wr.alloc (Obj.cells #[.int .u8 1, .int .i64 k, .string ⟨#[]⟩] 28)) := (Only.refl [] _).alloc _
      have hadd := add_new b mm M Hok.out 0 (fv k) (Hfull.out.hit_none (Int.le_refl _)) (by rw [Hfull.out.length, Hfull.out.lim]; exact hlt) (by rw [Hfull.out.last]; omega) (.slice (some ⟨wr.heap.size, 0, none⟩) 1 1) _ (Hm.out.only o1 (by simp) (by simp) (by simp)) (slIs_one (MapKept.heap_alloc wr _).1)
      rw [Hfull.out.last] at hadd
      have Hadd := hide hadd
      have O1 := hide o1
      clear hadd o1
      refine Hadd.out.mono ?_
      clear Hadd
      rintro e w2 ⟨v, rfl, hm2, _, ho2⟩
      have Hm2 := hide hm2
      have Ho2 := hide ho2
      clear hm2 ho2
      go_wp2
      go_roundw
      case rel => exact ⟨k + 1, by omega, by go_num, ⟨_, Hm2.out, Hok.out.add (Hfull.out.hit_none (Int.le_refl _)) (by rw [Hfull.out.length, Hfull.out.lim]; exact hlt) v, Hfull.out.add v⟩, below_only (below_only hB.out O1.out (by simp) hB.out.size) Ho2.out (by simp; omega) (Nat.le_trans hB.out.size O1.out.size)⟩
      case measure => simp [intOf]; omega
    · have hk' : (k : Int) = n := by omega
      have hq0 : 0 ≤ G % n := Int.emod_nonneg _ (by omega)
      have hq1 : G % n < n := Int.emod_lt_of_pos _ (by omega)
      have Hk := hide hk'
      have Hm := hide hm
      have Hok := hide hok
      have Hfull := hide hfull
      clear hm hok hfull hM hk'
      go_wp2_with fail
      obtain ⟨q, hq⟩ : ∃ q, G % n = q := ⟨_, rfl⟩
      rw [hq] at hq0 hq1 ⊢
      clear hq hG0 hG1
      rw [show (1 + q - 1 : Int) = q by omega]
      obtain ⟨f, hf, hid, hft, hfs⟩ : ∃ f ∈ M.l, f.id = 1 + q ∧ f.t = 0 ∧ f.s = fv q := by
        obtain ⟨f, hf, e1, e2, e3⟩ := Hfull.out.get (i := q.toNat) (by have := Hk.out; omega)
        exact ⟨f, hf, by omega, e2, by rw [e3]; congr 1; omega⟩
      have Hf := hide hf
      have Hid := hide hid
      have Hft := hide hft
      have Hfs := hide hfs
      clear hf hid hft hfs
      refine (fact_any _ _).mono ?_
      rintro e w' ⟨rfl, rfl⟩
      obtain ⟨m1, b1, s1, z1⟩ := fact_step Hm.out hB.out hB.out.size q _ rfl
      have hadd := add_old b mm M Hok.out f Hf.out _ _ m1 (by rw [Hfs.out]; exact s1)
      rw [Hft.out, Hid.out] at hadd
      have Hadd := hide hadd
      have M1 := hide m1
      have B1 := hide b1
      have Z1 := hide z1
      clear hadd m1 b1 s1 z1 Hm hB
      go_wp2_with fail
      refine Hadd.out.mono ?_
      rintro e w2 ⟨rfl, hb2⟩
      have M2 := hide (M1.out.below hb2)
      have B2 := hide (B1.out.trans (hb2.mono Z1.out))
      have Z2 := hide (Nat.le_trans Z1.out hb2.size)
      clear hb2 M1 B1 Z1 Hadd
      go_wp2_with fail
      refine (fact_any _ _).mono ?_
      rintro e w' ⟨rfl, rfl⟩
      obtain ⟨m3, b3, s3, z3⟩ := fact_step M2.out B2.out Z2.out n _ rfl
      have hadd := add_full b mm M Hok.out 0 (fv n) (Hfull.out.hit_none hk) (by rw [Hfull.out.length, Hfull.out.lim]; exact Hk.out) _ _ m3 s3
      have Hadd := hide hadd
      have M3 := hide m3
      have B3 := hide b3
      have Z3 := hide z3
      clear hadd m3 b3 s3 z3 M2 B2 Z2
      go_wp2_with fail
      refine Hadd.out.mono ?_
      rintro e w4 ⟨rfl, hb4⟩
      have M4 := hide (M3.out.below hb4)
      have B4 := hide (B3.out.trans (hb4.mono Z3.out))
      have Z4 := hide (Nat.le_trans Z3.out hb4.size)
      clear hb4 M3 B3 Z3 Hadd
      have hlen := len_any b mm M w4 M4.out
      rw [Hfull.out.length, Hk.out] at hlen
      have hlast := last_any b mm M w4 M4.out
      rw [Hfull.out.last, Hk.out] at hlast
      have Hlen := hide hlen
      have Hlast := hide hlast
      clear hlen hlast
      go_wp2_with fail
      refine Hlen.out.mono ?_
      rintro e w' ⟨rfl, rfl⟩
      go_wp2_with fail
      refine Hlast.out.mono ?_
      rintro e w' ⟨rfl, rfl⟩
      go_wp2_with fail
      have hrem := remove_yes b mm M Hok.out _ M4.out f Hf.out
      rw [Hid.out, Hft.out] at hrem
      refine hrem.mono ?_
      clear hrem
      rintro e w5 ⟨u, rfl, hu, _, hm5, ho5⟩
      obtain ⟨ua, un, uc, rfl⟩ := hu.form
      have ok5 : MemOk (M.del (1 + q)) := Hok.out.del _
      have o6 : Only [] w5 (w5.alloc (Obj.cells #[.int .i64 (1 + q), .int .i64 0, .slice ua un uc] 34)) := (Only.refl [] _).alloc _
      have M6 := hide (hm5.only o6 (by simp) (by simp) (by simp))
      have B6 := hide ((below_only B4.out ho5 (by simp; omega) Z4.out).alloc (Nat.le_trans Z4.out ho5.size) (Obj.cells #[.int .i64 (1 + q), .int .i64 0, .slice ua un uc] 34))
      have Z6 := hide (show w.heap.size ≤ (w5.alloc (Obj.cells #[.int .i64 (1 + q), .int .i64 0, .slice ua un uc] 34)).heap.size from by have := Z4.out; have := ho5.size; simp; omega)
      have Ok5 := hide ok5
      clear ok5 o6 hu hm5 B4 Z4 Hlen Hlast
      go_wp2_with fail
      have X6 := hide (MapKept.heap_alloc w5 (Obj.cells #[.int .i64 (1 + q), .int .i64 0, .slice ua un uc] 34)).1
      have hbx : b ≠ w5.heap.size ∧ mm ≠ w5.heap.size := by
        have := lt_of_heap M4.out.cells
        have := M4.out.map.lt
        have := ho5.size
        omega
      have Hbx := hide hbx
      clear hbx ho5 M4
      refine (remove_no b mm _ _ M6.out (1 + q) (fun g hg => by simpa using (List.mem_filter.1 hg).2)).mono ?_
      rintro e w7 ⟨y, rfl, hy, _, hb7⟩
      obtain ⟨ya, yn, yc, rfl⟩ := hy.form
      have o8 : Only [] w7 (w7.alloc (Obj.cells #[.int .i64 0, .int .i64 0, .slice ya yn yc] 34)) := (Only.refl [] _).alloc _
      have M8 := hide ((M6.out.below hb7).only o8 (by simp) (by simp) (by simp))
      have hz7 := Nat.le_trans Z6.out hb7.size
      have B8 := hide ((B6.out.trans (hb7.mono Z6.out)).alloc hz7 (Obj.cells #[.int .i64 0, .int .i64 0, .slice ya yn yc] 34))
      have Z8 := hide (show w.heap.size ≤ (w7.alloc (Obj.cells #[.int .i64 0, .int .i64 0, .slice ya yn yc] 34)).heap.size from by simp; omega)
      have X8 := hide ((o8.block w5.heap.size (by have := hb7.size; simp at this; omega) (by simp)).trans ((hb7.block w5.heap.size (by simp)).trans X6.out))
      clear hy hb7 o8 hz7 M6 B6 Z6 X6
      go_wp2_with fail
      refine (fact_any _ _).mono ?_
      rintro e w' ⟨rfl, rfl⟩
      obtain ⟨m9, b9, s9, z9⟩ := fact_step M8.out B8.out Z8.out n (w7.heap.size + 1) (by simp)
      have hnone : (M.del (1 + q)).hit 0 (fv n) = none := by
        have h := Hfull.out.hit_none hk
        unfold Mm.hit at h ⊢
        rw [List.find?_eq_none] at h ⊢
        exact fun g hg => h g (List.mem_filter.1 hg).1
      have hlen5 : ((M.del (1 + q)).l.length : Int) + 1 = n := by
        have h := length_del Hok.out.ids Hf.out
        rw [Hid.out, Hfull.out.length] at h
        have := Hk.out
        simp only [Mm.del]
        omega
      have hadd := add_new b mm _ Ok5.out 0 (fv n) hnone (by have := Hfull.out.lim; simp only [Mm.del] at hlen5 ⊢; omega) (by have := Hfull.out.last; have := Hk.out; simp only [Mm.del]; omega) _ _ m9 s9
      rw [show (M.del (1 + q)).last = n from by rw [← Hk.out]; exact Hfull.out.last] at hadd
      have Hadd := hide hadd
      have X9 := hide (((((Only.refl [] _).alloc (.cells #[.int .u8 1, .int .i64 n, .string ⟨#[]⟩] 28)).block w5.heap.size (lt_of_heap X8.out) (by simp))).trans X8.out)
      have B9 := hide b9
      have Z9 := hide z9
      have ok9 : ∀ v, MemOk ((M.del (1 + q)).add 0 (fv n) v) := Ok5.out.add hnone (by have := Hfull.out.lim; simp only [Mm.del] at hlen5 ⊢; omega)
      have Ok9 := hide ok9
      have Hlen5 := hide hlen5
      clear hadd m9 b9 s9 z9 M8 B8 Z8 X8 hlen5 hnone ok9
      go_wp2_with fail
      refine Hadd.out.mono ?_
      rintro e w10 ⟨v, rfl, hm10, _, ho10⟩
      have M10 := hide hm10
      have B10 := hide (below_only B9.out ho10 (by simp; omega) Z9.out)
      have Z10 := hide (Nat.le_trans Z9.out ho10.size)
      have X10 := hide ((ho10.block w5.heap.size (lt_of_heap X9.out) (by have := Hbx.out; simp; omega)).trans X9.out)
      have Ok10 := hide (Ok9.out v)
      clear hm10 ho10 B9 Z9 X9 Hadd Ok9
      go_wp2_with fail
      rw [show (1 + q - 1 : Int) = q by omega]
      refine (fact_any _ _).mono ?_
      rintro e w' ⟨rfl, rfl⟩
      obtain ⟨m11, b11, s11, z11⟩ := fact_step M10.out B10.out Z10.out q _ rfl
      have hnone : ((M.del (1 + q)).add 0 (fv n) v).hit 0 (fv q) = none := by
        unfold Mm.hit
        rw [List.find?_eq_none]
        intro g hg
        have hne : ¬ g.s = fv q := by
          rcases List.mem_append.1 hg with hg | hg
          · intro e
            obtain ⟨hg1, hg2⟩ := List.mem_filter.1 hg
            obtain ⟨i, _, e1, _, e3⟩ := Hfull.out.mem hg1
            have := fv_inj (e3.symm.trans e)
            simp at hg2
            omega
          · simp only [List.mem_singleton] at hg
            subst hg
            intro e
            have := fv_inj e
            omega
        simp [hne]
      have hlen10 : ((((M.del (1 + q)).add 0 (fv n) v).l.length : Nat) : Int) = n := by
        have := Hlen5.out
        simp only [Mm.add, List.length_append, List.length_singleton]
        omega
      have hadd := add_full b mm _ Ok10.out 0 (fv q) hnone (by rw [hlen10]; exact Hfull.out.lim.symm) _ _ m11 s11
      have Hadd := hide hadd
      have X11 := hide (((((Only.refl [] _).alloc (.cells #[.int .u8 1, .int .i64 q, .string ⟨#[]⟩] 28)).block w5.heap.size (lt_of_heap X10.out) (by simp))).trans X10.out)
      have M11 := hide m11
      have B11 := hide b11
      have Z11 := hide z11
      have hf0 : ((M.del (1 + q)).add 0 (fv n) v).find 0 (fv q) = 0 := by unfold Mm.find; rw [hnone]
      have hf1 : ((M.del (1 + q)).add 0 (fv n) v).find 0 (fv n) = n + 1 := by
        unfold Mm.find
        have h := Mm.find_mem Ok10.out (f := ⟨(M.del (1 + q)).last + 1, 0, fv n, v⟩) (by simp [Mm.add])
        simp only at h
        rw [h]
        simp only
        rw [show (M.del (1 + q)).last = n from by rw [← Hk.out]; exact Hfull.out.last]
      have Hf0 := hide hf0
      have Hf1 := hide hf1
      clear hadd m11 b11 s11 z11 M10 B10 Z10 X10 hnone hlen10 hf0 hf1
      go_wp2_with fail
      refine Hadd.out.mono ?_
      rintro e w12 ⟨rfl, hb12⟩
      have M12 := hide (M11.out.below hb12)
      have B12 := hide (B11.out.trans (hb12.mono Z11.out))
      have Z12 := hide (Nat.le_trans Z11.out hb12.size)
      have hX := (hb12.block w5.heap.size (lt_of_heap X11.out)).trans X11.out
      obtain ⟨x0, _, _, _⟩ := cells3 hX
      clear hb12 hX M11 B11 Z11 X11 Hadd
      go_wp2_with fail
      rw [show (1 + q - 1 : Int) = q by omega]
      refine (fact_any _ _).mono ?_
      rintro e w' ⟨rfl, rfl⟩
      obtain ⟨m13, b13, s13, z13⟩ := fact_step M12.out B12.out Z12.out q _ rfl
      have hfind := find_any b mm _ Ok10.out 0 _ (fv q) _ m13 s13
      rw [Hf0.out] at hfind
      have Hfind := hide hfind
      have M13 := hide m13
      have B13 := hide b13
      have Z13 := hide z13
      clear hfind m13 b13 s13 z13 M12 B12 Z12 x0
      go_wp2_with fail
      refine Hfind.out.mono ?_
      rintro e w14 ⟨rfl, hb14⟩
      have M14 := hide (M13.out.below hb14)
      have B14 := hide (B13.out.trans (hb14.mono Z13.out))
      have Z14 := hide (Nat.le_trans Z13.out hb14.size)
      clear hb14 M13 B13 Z13 Hfind
      go_wp2_with fail
      refine (fact_any _ _).mono ?_
      rintro e w' ⟨rfl, rfl⟩
      obtain ⟨m15, b15, s15, z15⟩ := fact_step M14.out B14.out Z14.out n _ rfl
      have hfind := find_any b mm _ Ok10.out 0 _ (fv n) _ m15 s15
      rw [Hf1.out] at hfind
      have Hfind := hide hfind
      have B15 := hide b15
      have Z15 := hide z15
      clear hfind m15 b15 s15 z15 M14 B14 Z14
      go_wp2_with fail
      refine Hfind.out.mono ?_
      rintro e w16 ⟨rfl, hb16⟩
      have B16 := hide (B15.out.trans (hb16.mono Z15.out))
      have Z16 := hide (Nat.le_trans Z15.out hb16.size)
      clear hb16 B15 Z15 Hfind
      go_wp2_with fail
      refine (known5 _).mono ?_
      rintro e w17 ⟨rfl, hb17⟩
      have B17 := hide (B16.out.trans (hb17.mono Z16.out))
      clear hb17 B16 Z16
      go_wp2
      go_ret
      exact ⟨rfl, B17.out⟩

end Go.Proofs.Yteealadflekffaa
