/- The walk of witanlaw05.MemoryRises. -/
import Derived.Test.YteealadflekffaaKnown5
import Derived.Test.YteealadflekffaaSame
import Derived.Test.YteealadflekffaaArgs
import Derived.Test.YteealadflekffaaFacts
namespace Go.Proofs.Yteealadflekffaa
open Go Go.RowKit Go.MapKept

/-- Add, where the memory is not full: afterwards the fact is there. -/
theorem add_one (b mm : Nat) (M : Mm) (hM : MemOk M) (t : Int) (s : List Vl) (hl : (M.l.length : Int) < M.limit) (hlast : M.last < 1000000000) (x : Value) (w : World) (h : MemIs w b mm M) (hx : SlIs w x s) :
    Calls Try.prog 11 #[.pointer (some ⟨b, 0, none⟩), .int .i64 t, x] w fun e w' => ∃ (M' : Mm) (f : Fc) (fr : Bool), e = .returned (.tuple #[.int .i64 f.id, .bool fr, .int .i64 0]) ∧ MemIs w' b mm M' ∧ MemOk M' ∧ f ∈ M'.l ∧ f.t = t ∧ f.s = s ∧
      M'.limit = M.limit ∧ M'.last ≤ M.last + 1 ∧ M'.l.length ≤ M.l.length + 1 ∧ (f.id == M.last + 1) = fr ∧ ((M'.l.length : Int) == M.l.length + 1) = fr ∧ Only [b, mm] w w' := by
  cases hh : M.hit t s with
  | some f =>
    obtain ⟨hf, rfl, rfl⟩ := Mm.hit_some hh
    refine (add_old b mm M hM f hf x w h hx).mono ?_
    rintro e w' ⟨rfl, hb⟩
    have := (hM.le f hf).2
    exact ⟨M, f, false, rfl, h.below hb, hM, hf, rfl, rfl, rfl, by omega, by omega, by simp; omega, by simp; omega, Only.of_below hb _⟩
  | none =>
    refine (add_new b mm M hM t s hh hl hlast x w h hx).mono ?_
    rintro e w' ⟨v, rfl, hm, _, ho⟩
    exact ⟨M.add t s v, ⟨M.last + 1, t, s, v⟩, true, rfl, hm, hM.add hh hl v, by simp [Mm.add], rfl, rfl, rfl, by simp [Mm.add], by simp [Mm.add], by simp, by simp [Mm.add], ho⟩

theorem cells4 {w : World} {b : Nat} {x y z u : Value} {t : TypeId} (h : w.heap[b]? = some (.cells #[x, y, z, u] t (0, 0))) :
    w.cell? ⟨b, 0, none⟩ = some x ∧ w.cell? ⟨b, 1, none⟩ = some y ∧ w.cell? ⟨b, 2, none⟩ = some z ∧ w.cell? ⟨b, 3, none⟩ = some u ∧ w.frozen? ⟨b, 0, none⟩ = false ∧ w.frozen? ⟨b, 1, none⟩ = false ∧ w.frozen? ⟨b, 2, none⟩ = false ∧ w.frozen? ⟨b, 3, none⟩ = false := by
  simp [World.cell?, World.frozen?, h]

set_option maxRecDepth 100000 in
set_option maxHeartbeats 1000000 in
theorem rises_walk (v : Value) (l : List OpD) (w : World) (hl : OpsIs w v l) :
    Calls Try.prog 6 #[v] w fun e w' => e = .returned (.bool true) ∧ Below w.heap.size w w' := by
  obtain ⟨hlen, hv⟩ := hl
  rcases hv with ⟨b0, off, c, rfl, hi⟩ | ⟨rfl, hv⟩
  case inr =>
    obtain ⟨a, c, rfl⟩ : ∃ a c, v = .slice a 0 c := by rcases hv with rfl | ⟨a, c, rfl⟩ <;> exact ⟨_, _, rfl⟩
    clear hv
    go_enter Try.func6, Try.ntmps6
    go_wp2_with fail
    refine (new_any 200 (by omega) (by omega) _).mono ?_
    rintro e w1 ⟨b, mm, rfl, hm, hb, hbb, hmm⟩
    have Hb := hide hb
    clear hm hb
    go_wp2_with fail
    go_loopw [32] (fun i wr => i = .int .i64 0 ∧ Hid (Below w.heap.size w wr)) (fun _ _ => 0)
    case atStart => exact ⟨rfl, Hb.out⟩
    case round =>
      obtain ⟨rfl, hB⟩ := hrel
      go_wp2_with (go_at_call 16; refine (known5 _).mono ?_; rintro e w' ⟨rfl, hb⟩)
      go_ret
      exact ⟨rfl, hB.out.trans (hb.mono hB.out.size)⟩
  have Hi := hide hi
  clear hi
  by_cases hbig : (l.length : Int) > 60
  · go_enter Try.func6, Try.ntmps6
    go_wp2_with (go_at_call 16; refine (known5 _).mono ?_; rintro e w' ⟨rfl, hb⟩)
    go_ret
    exact ⟨rfl, hb⟩
  · go_enter Try.func6, Try.ntmps6
    go_wp2_with fail
    refine (new_any 200 (by omega) (by omega) _).mono ?_
    rintro e w1 ⟨b, mm, rfl, hm, hb, hbb, hmm⟩
    have Hm := hide hm
    have Hb := hide hb
    clear hm hb
    go_wp2_with fail
    go_loopw [32] (fun i wr => ∃ k : Nat, k ≤ l.length ∧ i = .int .i64 k ∧ Hid (∃ M, MemIs wr b mm M ∧ MemOk M ∧ M.limit = 200 ∧ M.last ≤ k ∧ M.l.length ≤ k) ∧ Hid (Below w.heap.size w wr)) (fun i _ => l.length - (intOf i).toNat)
    case atStart => exact ⟨0, Nat.zero_le _, rfl, ⟨_, Hm.out, memOk_new 200 (by omega) (by omega), rfl, by simp, by simp⟩, Hb.out⟩
    case round =>
      obtain ⟨k, hk, rfl, hM, hB⟩ := hrel
      by_cases hlt : k < l.length
      · obtain ⟨M, hm, hok, hlim, hlast, hlm⟩ := hM.out
        obtain ⟨o, ho⟩ : ∃ o, l[k] = o := ⟨_, rfl⟩
        have hop := (Hi.out k hlt).below hB.out
        rw [ho] at hop
        obtain ⟨c0, c1, c2, c3, hs, hn⟩ := hop
        have Hop := hide ho
        have Hm := hide hm
        have Hok := hide hok
        have Hlim := hide hlim
        have Hs := hide hs
        clear ho hm hok hlim hM hs
        by_cases hs : (o.n : Int) > 10
        · go_wp2_with (go_at_call 16; refine (known5 _).mono ?_; rintro e w' ⟨rfl, hb⟩)
          go_ret
          exact ⟨rfl, (hB.out.alloc hB.out.size _).trans (hb.mono (by have := hB.out.size; simp; omega))⟩
        · go_wp2_with fail
          obtain ⟨hsl, hsx⟩ := Hs.out (by omega)
          have o1 : Only [] wr (wr.alloc (Obj.cells #[.int .i64 o.kind, .int .i64 o.t, .int .i64 o.id, .slice o.a o.n o.c] 52)) := (Only.refl [] _).alloc _
          have M1 := hide (Hm.out.only o1 (by simp) (by simp) (by simp))
          have S1 := hide (hsx.only o1 (by simp))
          have B1 := hide (hB.out.alloc hB.out.size (Obj.cells #[.int .i64 o.kind, .int .i64 o.t, .int .i64 o.id, .slice o.a o.n o.c] 52))
          have Z1 := hide (Nat.le_trans hB.out.size o1.size)
          have X1 := hide (MapKept.heap_alloc wr (Obj.cells #[.int .i64 o.kind, .int .i64 o.t, .int .i64 o.id, .slice o.a o.n o.c] 52)).1
          have hlast1 := last_any b mm M _ M1.out
          have hlen1 := len_any b mm M _ M1.out
          have hadd := add_one b mm M Hok.out o.t o.s (by rw [Hlim.out]; omega) (by omega) (.slice o.a o.n o.c) _ M1.out S1.out
          have Hlast1 := hide hlast1
          have Hlen1 := hide hlen1
          have Hadd := hide hadd
          have hne : b ≠ wr.heap.size ∧ mm ≠ wr.heap.size := by
            have := lt_of_heap Hm.out.cells
            have := Hm.out.map.lt
            omega
          have Hne := hide hne
          have Hx := hide hsx
          have hl0 := Hok.out.last
          clear hsl hsx o1 hlast1 hlen1 hadd hne c0 c1 c2 c3
          refine Hlast1.out.mono ?_
          rintro e w' ⟨rfl, rfl⟩
          go_wp2_with fail
          refine Hlen1.out.mono ?_
          rintro e w' ⟨rfl, rfl⟩
          go_wp2_with fail
          refine Hadd.out.mono ?_
          rintro e w2 ⟨M', f, fr, rfl, hm2, hok2, hf, hft, hfs, hlim2, hlast2, hlen2, hfr1, hfr2, ho2⟩
          have g2 := (ho2.block wr.heap.size (lt_of_heap X1.out) (by have := Hne.out; simp; omega)).trans X1.out
          obtain ⟨x0, x1, x2, x3, _⟩ := cells4 g2
          have s2 := S1.out.only ho2 (fun hn' k hk => by have := M1.out.apart S1.out hn' hk; simp; omega)
          have hfind := find_any b mm M' hok2 o.t (.slice o.a o.n o.c) o.s _ hm2 s2
          have hfv : M'.find o.t o.s = f.id := by
            unfold Mm.find
            rw [← hft, ← hfs, Mm.find_mem hok2 hf]
          rw [hfv] at hfind
          have hlen2' := len_any b mm M' _ hm2
          have Hfind := hide hfind
          have Hlen2 := hide hlen2'
          have M2 := hide hm2
          have Ok2 := hide hok2
          have Hf := hide hf
          have Hft := hide hft
          have Hfs := hide hfs
          have Hlim2 := hide hlim2
          have Hl2 := hide hlast2
          have Hll2 := hide hlen2
          have S2 := hide s2
          have X2 := hide g2
          have B2 := hide (below_only B1.out ho2 (by simp; omega) Z1.out)
          have Z2 := hide (Nat.le_trans Z1.out ho2.size)
          have Ho2 := hide ho2
          clear hm2 hok2 hf hft hfs hlim2 hlast2 hlen2 ho2 g2 s2 hfind hfv hlen2' M1 S1 X1 B1 Z1 Hlast1 Hlen1 Hadd
          go_wp2_with fail
          refine Hlen2.out.mono ?_
          rintro e w' ⟨rfl, rfl⟩
          go_wp2_with fail
          refine Hfind.out.mono ?_
          rintro e w3 ⟨rfl, hb3⟩
          have M3 := hide (M2.out.below hb3)
          have S3 := hide (S2.out.only (Only.of_below hb3 []) (by simp))
          have X3 := hide ((hb3.block wr.heap.size (lt_of_heap X2.out)).trans X2.out)
          have B3 := hide (B2.out.trans (hb3.mono Z2.out))
          have Z3 := hide (Nat.le_trans Z2.out hb3.size)
          clear hb3 M2 S2 X2 B2 Z2 x0 x1 x2 x3 Hfind Hlen2
          go_wp2_with fail
          refine (get_yes b mm M' Ok2.out _ M3.out f Hf.out).mono ?_
          rintro e w4 ⟨u, rfl, hsu, _, hb4⟩
          obtain ⟨ua, un, uc, rfl⟩ := hsu.form
          have o5 : Only [] w4 (w4.alloc (Obj.cells #[.int .i64 f.id, .int .i64 f.t, .slice ua un uc] 34)) := (Only.refl [] _).alloc _
          have hz4 := Nat.le_trans Z3.out hb4.size
          have M5 := hide ((M3.out.below hb4).only o5 (by simp) (by simp) (by simp))
          have S5 := hide ((S3.out.only (Only.of_below hb4 []) (by simp)).only o5 (by simp))
          have U5 := hide (hsu.only o5 (by simp))
          have hx5 := (o5.block wr.heap.size (Nat.lt_of_lt_of_le (lt_of_heap X3.out) hb4.size) (by simp)).trans ((hb4.block wr.heap.size (lt_of_heap X3.out)).trans X3.out)
          obtain ⟨x0, x1, x2, x3, _⟩ := cells4 hx5
          have X5 := hide hx5
          have B5 := hide ((B3.out.trans (hb4.mono Z3.out)).alloc hz4 (Obj.cells #[.int .i64 f.id, .int .i64 f.t, .slice ua un uc] 34))
          have Z5 := hide (Nat.le_trans hz4 o5.size)
          clear o5 hz4 hsu hb4 hx5 M3 S3 X3 B3 Z3
          have hteq : (f.t != o.t) = false := by rw [Hft.out]; simp
          go_wp2_with fail
          refine (same_any _ _ f.s o.s _ U5.out S5.out).mono ?_
          rintro e w6 ⟨rfl, nq, rfl⟩
          rw [show decide (f.s = o.s) = true from by simpa using Hfs.out]
          by_cases hk2 : o.kind = 2
          · have hkeq : (o.kind == 2) = true := by simpa using hk2
            clear hk2
            have o6 : Only [] (w4.alloc (Obj.cells #[.int .i64 f.id, .int .i64 f.t, .slice ua un uc] 34)) ((w4.alloc (Obj.cells #[.int .i64 f.id, .int .i64 f.t, .slice ua un uc] 34)).drewN nq) := (Only.refl [] _).drewN _
            have M6 := hide (M5.out.only o6 (by simp) (by simp) (by simp))
            go_wp2_with fail
            refine (remove_yes b mm M' Ok2.out _ M6.out f Hf.out).mono ?_
            rintro e w7 ⟨y, rfl, hy, _, hm7, ho7⟩
            obtain ⟨ya, yn, yc, rfl⟩ := hy.form
            have hlx : wr.heap.size < ((w4.alloc (Obj.cells #[.int .i64 f.id, .int .i64 f.t, .slice ua un uc] 34)).drewN nq).heap.size := lt_of_heap X5.out
            have hx7 := (ho7.block wr.heap.size hlx (by have := Hne.out; simp; omega)).trans X5.out
            have o8 : Only [] w7 (w7.alloc (Obj.cells #[.int .i64 f.id, .int .i64 f.t, .slice ya yn yc] 34)) := (Only.refl [] _).alloc _
            have M8 := hide (hm7.only o8 (by simp) (by simp) (by simp))
            have S8 := hide (((S5.out.only o6 (by simp)).only ho7 (fun hn' k hk => by have := (M5.out.apart S5.out hn' hk).2; simpa using this)).only o8 (by simp))
            have hx8 := (o8.block wr.heap.size (lt_of_heap hx7) (by simp)).trans hx7
            obtain ⟨e0, e1, e2, e3, _⟩ := cells4 hx8
            have hz7 : w.heap.size ≤ w7.heap.size := Nat.le_trans Z5.out ho7.size
            have hb7 : Below w.heap.size w w7 := below_only (below_drewN B5.out nq) ho7 (by simp; omega) Z5.out
            have B8 := hide (hb7.alloc hz7 (Obj.cells #[.int .i64 f.id, .int .i64 f.t, .slice ya yn yc] 34))
            have Z8 := hide (Nat.le_trans hz7 o8.size)
            have ok8 := Ok2.out.del f.id
            have hhit : (M'.del f.id).hit o.t o.s = none := by
              unfold Mm.hit
              rw [List.find?_eq_none]
              intro g hg
              obtain ⟨hg1, hg2⟩ := List.mem_filter.1 hg
              have hne' : ¬ (g.t = o.t ∧ g.s = o.s) := by
                rintro ⟨e1, e2⟩
                rcases pairwise_cases Ok2.out.uniq hg1 Hf.out with q | q | q
                · rw [q] at hg2; simp at hg2
                · exact q ⟨e1.trans Hft.out.symm, e2.trans Hfs.out.symm⟩
                · exact q ⟨Hft.out.trans e1.symm, Hfs.out.trans e2.symm⟩
              simpa using hne'
            have hfind := find_any b mm _ ok8 o.t (.slice o.a o.n o.c) o.s _ M8.out S8.out
            rw [show (M'.del f.id).find o.t o.s = 0 from by unfold Mm.find; rw [hhit]] at hfind
            have Hfind := hide hfind
            have Ok8 := hide ok8
            clear hlx hx7 o8 hx8 hz7 hb7 ok8 hhit hfind hy hm7 ho7 o6 M6 x0 x1 x2 x3
            go_wp2_with fail
            refine Hfind.out.mono ?_
            rintro e w9 ⟨rfl, hb9⟩
            have M9 := hide (M8.out.below hb9)
            have B9 := hide (B8.out.trans (hb9.mono Z8.out))
            have Z9 := hide (Nat.le_trans Z8.out hb9.size)
            have hlen9 := len_any b mm _ _ M9.out
            have Hlen9 := hide hlen9
            have hle : (M'.del f.id).l.length ≤ M'.l.length := List.length_filter_le _ _
            have hll := Hll2.out
            clear hb9 Hfind M8 B8 Z8 S8 e0 e1 e2 e3 hlen9
            go_wp2_with fail
            refine Hlen9.out.mono ?_
            rintro e w' ⟨rfl, rfl⟩
            by_cases hz : (M'.del f.id).l.length = 0
            · have hzz : (((M'.del f.id).l.length : Int) == 0) = true := by simpa using hz
              have Hz := hide hz
              clear hz
              have HF9 := hide (facts_len b mm _ Ok8.out (by have := Hl2.out; simp only [Mm.del]; omega) _ M9.out)
              go_wp2_with fail
              refine HF9.out.mono ?_
              rintro e w10 ⟨⟨qa, qc, rfl⟩, hb10⟩
              have M10 := hide (M9.out.below hb10)
              have B10 := hide (B9.out.trans (hb10.mono Z9.out))
              clear hb10
              rw [Hz.out]
              go_wp2
              go_roundw
              case rel => exact ⟨k + 1, by omega, by go_num, ⟨_, M10.out, Ok8.out, Hlim2.out.trans Hlim.out, by have := Hl2.out; simp only [Mm.del]; omega, by omega⟩, B10.out⟩
              case measure => simp [intOf]; omega
            · have hzz : (((M'.del f.id).l.length : Int) == 0) = false := by rw [beq_eq_false_iff_ne]; omega
              clear hz
              go_wp2
              go_roundw
              case rel => exact ⟨k + 1, by omega, by go_num, ⟨_, M9.out, Ok8.out, Hlim2.out.trans Hlim.out, by have := Hl2.out; simp only [Mm.del]; omega, by omega⟩, B9.out⟩
              case measure => simp [intOf]; omega
          · have hkeq : (o.kind == 2) = false := by simpa using hk2
            clear hk2
            go_wp2
            go_roundw
            case rel => exact ⟨k + 1, by omega, by go_num, ⟨M', M5.out.only ((Only.refl [] _).drewN _) (by simp) (by simp) (by simp), Ok2.out, Hlim2.out.trans Hlim.out, by have := Hl2.out; omega, by have := Hll2.out; omega⟩, below_drewN B5.out _⟩
            case measure => simp [intOf]; omega
      · go_wp2_with (go_at_call 16; refine (known5 _).mono ?_; rintro e w' ⟨rfl, hb⟩)
        go_ret
        exact ⟨rfl, hB.out.trans (hb.mono hB.out.size)⟩

end Go.Proofs.Yteealadflekffaa
