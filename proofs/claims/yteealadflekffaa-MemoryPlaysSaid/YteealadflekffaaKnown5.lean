/- The contract of witanlaw05.known: it returns true. -/
import Derived.Test.YteealadflekffaaMem2
namespace Go.Proofs.Yteealadflekffaa
open Go Go.RowKit Go.MapKept

theorem hit_nil (lim last t : Int) (s : List Vl) : (Mm.mk lim last []).hit t s = none := rfl

theorem slIs_one {w : World} {b c : Nat} {k n : Int} {s : ByteArray} {t : TypeId} (h : w.heap[b]? = some (.cells #[.int .u8 k, .int .i64 n, .string s] t (0, 0))) : SlIs w (.slice (some ⟨b, 0, none⟩) 1 c) [⟨k, n, s⟩] := by
  refine ⟨by simp, .inl ⟨b, 0, c, rfl, fun i hi => ?_⟩⟩
  obtain ⟨c0, c1, c2, _⟩ := cells3 h
  have : i = 0 := by simpa using hi
  subst this
  exact ⟨c0, c1, c2⟩

set_option maxHeartbeats 400000 in
theorem known5 (w : World) : Calls Try.prog 16 #[] w fun e w' => e = .returned (.bool true) ∧ Below w.heap.size w w' := by
  go_enter Try.func16, Try.ntmps16
  go_wp2_with fail
  refine (new_any 2 (by omega) (by omega) _).mono ?_
  rintro e w1 ⟨b, mm, rfl, hm1, hb1, hb, hmm⟩
  have o1 : Only [] w1 (w1.alloc (Obj.cells #[.int .u8 1, .int .i64 1, .string ⟨#[]⟩] 28)) := (Only.refl [] _).alloc _
  have s1 : SlIs (w1.alloc (Obj.cells #[.int .u8 1, .int .i64 1, .string ⟨#[]⟩] 28)) (.slice (some ⟨w1.heap.size, 0, none⟩) 1 1) [⟨1, 1, ⟨#[]⟩⟩] := slIs_one (MapKept.heap_alloc w1 _).1
  have m1 := hm1.only o1 (by simp) (by simp) (by simp)
  have b1 := below_only hb1 o1 (by simp) hb1.size
  have hx1 : w1.heap.size ≠ b ∧ w1.heap.size ≠ mm := ⟨fun e => by have := lt_of_heap hm1.cells; omega, fun e => by have := hm1.map.lt; omega⟩
  have S1 := hide s1
  have M1 := hide m1
  have B1 := hide b1
  have Hx1 := hide hx1
  clear hm1 hb1 o1 s1 m1 b1 hx1
  go_wp2_with fail
  refine (add_new b mm ⟨2, 0, []⟩ (memOk_new 2 (by omega) (by omega)) 0 [⟨1, 1, ⟨#[]⟩⟩] rfl (by simp) (by simp) _ _ M1.out S1.out).mono ?_
  rintro e w2 ⟨v, rfl, hm2, hfr, ho2⟩
  have s2 := S1.out.only ho2 fun _ k hk => by simp only [blkOf, Option.some.injEq] at hk; have := Hx1.out; simp; omega
  have b2 := below_only B1.out ho2 (by simp; omega) B1.out.size
  have ok2 : MemOk ((Mm.mk 2 0 []).add 0 [⟨1, 1, ⟨#[]⟩⟩] v) := (memOk_new 2 (by omega) (by omega)).add rfl (by simp) v
  have S2 := hide s2
  have M2 := hide hm2
  have B2 := hide b2
  have O2 := hide ok2
  clear S1 M1 B1 hm2 hfr ho2 s2 b2 ok2
  go_wp2_with fail
  refine (add_old b mm _ O2.out ⟨1, 0, [⟨1, 1, ⟨#[]⟩⟩], v⟩ (by simp [Mm.add]) _ _ M2.out S2.out).mono ?_
  rintro e w3 ⟨rfl, hb3⟩
  have M3 := hide (M2.out.below hb3)
  have S3 := hide (S2.out.only (Only.of_below hb3 []) (by simp))
  have B3 := hide (B2.out.trans (hb3.mono B2.out.size))
  clear M2 S2 B2 hb3
  go_wp2_with fail
  refine (remove_yes b mm _ O2.out _ M3.out ⟨1, 0, [⟨1, 1, ⟨#[]⟩⟩], v⟩ (by simp [Mm.add])).mono ?_
  rintro e w4 ⟨u, rfl, hsu, _, hm4, ho4⟩
  obtain ⟨ua, un, uc, rfl⟩ := hsu.form
  have M4 : Hid (MemIs w4 b mm ⟨2, 1, []⟩) := hm4
  have O4 : Hid (MemOk ⟨2, 1, []⟩) := O2.out.del 1
  have S4 := hide (S3.out.only ho4 fun _ k hk => by simp only [blkOf, Option.some.injEq] at hk; have := Hx1.out; simp; omega)
  have B4 := hide (below_only B3.out ho4 (by simp; omega) B3.out.size)
  clear M3 S3 B3 O2 hm4 ho4 hsu
  have o5 : Only [] w4 (w4.alloc (Obj.cells #[.int .i64 1, .int .i64 0, .slice ua un uc] 34)) := (Only.refl [] _).alloc _
  have M5 := hide (M4.out.only o5 (by simp) (by simp) (by simp))
  have S5 := hide (S4.out.only o5 (by simp))
  have B5 := hide (below_only B4.out o5 (by simp) B4.out.size)
  clear M4 S4 B4 o5
  go_wp2_with fail
  refine (add_new b mm ⟨2, 1, []⟩ O4.out 0 [⟨1, 1, ⟨#[]⟩⟩] rfl (by simp) (by simp) _ _ M5.out S5.out).mono ?_
  rintro e w6 ⟨v6, rfl, hm6, _, ho6⟩
  have B6 := hide (below_only B5.out ho6 (by simp; omega) B5.out.size)
  clear M5 S5 B5 hm6 ho6
  go_wp2
  go_ret
  exact ⟨rfl, B6.out⟩

end Go.Proofs.Yteealadflekffaa
