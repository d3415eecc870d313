/- The contract of runs of witanlaw05: all calls of a script, one after the other. -/
import Derived.Test.YteealadflekffaaRises
namespace Go.Proofs.Yteealadflekffaa
open Go Go.RowKit Go.MapKept

set_option maxHeartbeats 1000000 in
theorem runs_any (b mm : Nat) (v : Value) (l : List OpD) (w0 w : World) (hl : OpsIs w0 v l) (hs10 : ∀ i (h : i < l.length), l[i].n ≤ 10) (M : Mm) (hM : MemOk M) (h : MemIs w b mm M) (hb : Below w0.heap.size w0 w) (hB : w0.heap.size ≤ b ∧ w0.heap.size ≤ mm)
    (hroom : (M.l.length : Int) + l.length < M.limit + 1) (hlast : M.last + l.length < 1000000) :
    Calls Try.prog 25 #[.pointer (some ⟨b, 0, none⟩), v] w fun e w' => ∃ M', e = .returned (.tuple #[]) ∧ MemIs w' b mm M' ∧ MemOk M' ∧ M'.limit = M.limit ∧ M'.last ≤ M.last + l.length ∧ M'.l.length ≤ M.l.length + l.length ∧ Below w0.heap.size w0 w' := by
  have hl0 := hM.last
  obtain ⟨hlen, hv⟩ := hl
  rcases hv with ⟨b0, off, c, rfl, hi⟩ | ⟨rfl, hv⟩
  case inr =>
    obtain ⟨a, c, rfl⟩ : ∃ a c, v = .slice a 0 c := by rcases hv with rfl | ⟨a, c, rfl⟩ <;> exact ⟨_, _, rfl⟩
    have H := hide h
    have Hb := hide hb
    have HM := hide hM
    clear hv h hb hM hs10
    go_enter Try.func25, Try.ntmps25
    go_wp2_with fail
    go_loopw [8] (fun i wr => i = .int .i64 0 ∧ Hid (wr = w)) (fun _ _ => 0)
    case atStart => exact ⟨rfl, rfl⟩
    case round =>
      obtain ⟨rfl, hB⟩ := hrel
      go_wp2_with fail
      go_end0
      rw [hB.out]
      exact ⟨M, rfl, H.out, HM.out, rfl, by simp, by simp, Hb.out⟩
  have Hi := hide hi
  have H := hide h
  have Hb := hide hb
  have HM := hide hM
  have H10 := hide hs10
  clear hi h hb hM hs10
  go_enter Try.func25, Try.ntmps25
  go_wp2_with fail
  go_loopw [8] (fun i wr => ∃ k : Nat, k ≤ l.length ∧ i = .int .i64 k ∧ Hid (∃ M', MemIs wr b mm M' ∧ MemOk M' ∧ M'.limit = M.limit ∧ M'.last ≤ M.last + k ∧ M'.l.length ≤ M.l.length + k) ∧ Hid (Below w0.heap.size w0 wr)) (fun i _ => l.length - (intOf i).toNat)
  case atStart => exact ⟨0, Nat.zero_le _, rfl, ⟨M, H.out, HM.out, rfl, by simp, by simp⟩, Hb.out⟩
  case round =>
    obtain ⟨k, hk, rfl, hMM, hBB⟩ := hrel
    by_cases hlt : k < l.length
    · obtain ⟨M', hm, hok, hlim, hlast', hlm⟩ := hMM.out
      obtain ⟨o, ho⟩ : ∃ o, l[k] = o := ⟨_, rfl⟩
      have hop := (Hi.out k hlt).below hBB.out
      have hn10 := H10.out k hlt
      rw [ho] at hop hn10
      obtain ⟨c0, c1, c2, c3, hs, hn⟩ := hop
      obtain ⟨hsl, hsx⟩ := hs (by omega)
      have o1 : Only [] wr (wr.alloc (Obj.cells #[.int .i64 o.kind, .int .i64 o.t, .int .i64 o.id, .slice o.a o.n o.c] 52)) := (Only.refl [] _).alloc _
      have m1 := hm.only o1 (by simp) (by simp) (by simp)
      have s1 := hsx.only o1 (by simp)
      have b1 := hBB.out.alloc hBB.out.size (Obj.cells #[.int .i64 o.kind, .int .i64 o.t, .int .i64 o.id, .slice o.a o.n o.c] 52)
      have z1 := Nat.le_trans hBB.out.size o1.size
      have B1 := hide b1
      have Z1 := hide z1
      have M1 := hide m1
      have Ok := hide hok
      by_cases hk2 : o.kind = 2
      · have hkeq : (o.kind == 2) = true := by simpa using hk2
        by_cases hex : ∃ f ∈ M'.l, f.id = o.id
        · obtain ⟨f, hf, hfi⟩ := hex
          have hrem := remove_yes b mm M' hok _ m1 f hf
          rw [hfi] at hrem
          have Hrem := hide hrem
          have Hlim := hide hlim
          clear ho hm hok hlim hMM hs hsl hsx o1 m1 s1 b1 z1 hrem hk2 hfi hf
          go_wp2_with fail
          refine Hrem.out.mono ?_
          rintro e w2 ⟨y, rfl, _, _, hm2, ho2⟩
          have B2 := hide (below_only B1.out ho2 (by simp; omega) Z1.out)
          have M2 := hide hm2
          clear hm2 ho2
          have hle : (M'.del o.id).l.length ≤ M'.l.length := List.length_filter_le _ _
          go_wp2
          go_roundw
          case rel => exact ⟨k + 1, by omega, by go_num, ⟨_, M2.out, Ok.out.del _, Hlim.out, by simp only [Mm.del]; omega, by omega⟩, B2.out⟩
          case measure => simp [intOf]; omega
        · have hrem := remove_no b mm M' _ m1 o.id (fun f hf e => hex ⟨f, hf, e⟩)
          have Hrem := hide hrem
          have Hlim := hide hlim
          clear ho hm hok hlim hMM hs hsl hsx o1 m1 s1 b1 z1 hrem hk2 hex
          go_wp2_with fail
          refine Hrem.out.mono ?_
          rintro e w2 ⟨y, rfl, _, _, hb2⟩
          have B2 := hide (B1.out.trans (hb2.mono Z1.out))
          have M2 := hide (M1.out.below hb2)
          clear hb2
          go_wp2
          go_roundw
          case rel => exact ⟨k + 1, by omega, by go_num, ⟨_, M2.out, Ok.out, Hlim.out, by omega, by omega⟩, B2.out⟩
          case measure => simp [intOf]; omega
      · have hkeq : (o.kind == 2) = false := by simpa using hk2
        have hadd := add_one b mm M' hok o.t o.s (by omega) (by omega) (.slice o.a o.n o.c) _ m1 s1
        have Hadd := hide hadd
        have Hlim := hide hlim
        clear ho hm hok hlim hMM hs hsl hsx o1 m1 s1 b1 z1 hadd hk2
        go_wp2_with fail
        refine Hadd.out.mono ?_
        rintro e w2 ⟨M2, f, fr, rfl, hm2, hok2, _, _, _, hlim2, hlast2, hlen2, _, _, ho2⟩
        have B2 := hide (below_only B1.out ho2 (by simp; omega) Z1.out)
        have HM2 := hide hm2
        have Ok2 := hide hok2
        have Hlim2 := hide (hlim2.trans Hlim.out)
        clear hm2 ho2 hok2 hlim2
        go_wp2
        go_roundw
        case rel => exact ⟨k + 1, by omega, by go_num, ⟨M2, HM2.out, Ok2.out, Hlim2.out, by omega, by omega⟩, B2.out⟩
        case measure => simp [intOf]; omega
    · obtain rfl : k = l.length := by omega
      go_wp2_with fail
      go_end0
      obtain ⟨M', hm, hok, hlim, hlast', hlm⟩ := hMM.out
      exact ⟨M', rfl, hm, hok, hlim, hlast', hlm, hBB.out⟩
end Go.Proofs.Yteealadflekffaa
