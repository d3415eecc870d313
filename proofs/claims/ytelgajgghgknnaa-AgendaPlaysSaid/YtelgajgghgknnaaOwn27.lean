/- The contracts of witanlaw27's own and spoil. -/
import Derived.Test.YtelgajgghgknnaaSpoil
import Derived.Test.YtelgajgghgknnaaOnce
namespace Go.Proofs.Ytelgajgghgknnaa
open Go Go.RowKit Go.MapKept Go.Sort

set_option maxRecDepth 100000 in
set_option maxHeartbeats 2000000 in
theorem own_any (v : Value) (L : List Ac) (w : World) (h : ActsIs w v L) (hN : L.length ≤ 20) :
    Calls Try.prog 21 #[v] w fun r w' => ∃ v' lk, r = .returned v' ∧ OutIs w.heap.size w' v' lk ∧ lk.map Ac.co = L.map Ac.co ∧ Below w.heap.size w w' := by
  obtain ⟨va, vc, rfl⟩ := h.form
  obtain ⟨i0, hi, hz0, hz1, hz2⟩ := ainfo_parts
  obtain ⟨j0, hj, hy0, hy1, hy2⟩ := int_parts
  have Hi := hide hi
  have Hz0 := hide hz0
  have Hz1 := hide hz1
  have Hz2 := hide hz2
  have Hj := hide hj
  have Hy0 := hide hy0
  have Hy1 := hide hy1
  have Hy2 := hide hy2
  have HL := hide h
  clear hi hz0 hz1 hz2 hj hy0 hy1 hy2 h
  go_enter Try.func21, Try.ntmps21
  go_wp2_with fail
  go_loopw [3, 8] (fun vo vi wr => ∃ (k : Nat) (lk : List Ac) (la : Option Addr) (lc : Nat), k ≤ L.length ∧ vi = .int .i64 k ∧ vo = .slice la k lc ∧ Hid (lk.length = k ∧ OutIs w.heap.size wr (.slice la k lc) lk ∧ lk.map Ac.co = (L.take k).map Ac.co ∧ Below w.heap.size w wr)) (fun _ i _ => L.length - (intOf i).toNat)
  case atStart => exact ⟨0, [], none, 0, Nat.zero_le _, rfl, rfl, rfl, ⟨World.ownsRow_nil _ _ _ _, by simp⟩, by simp, Below.refl _ _⟩
  case round =>
    obtain ⟨k, lk, la, lc, hk, rfl, rfl, hq⟩ := hrel
    by_cases hlt : k < L.length
    · have hLr := HL.out.below hq.out.2.2.2
      obtain ⟨b, off, cap, xa, xc, e, hx, c0, c1, c2⟩ := hLr.at hlt
      injection e with e1 e2 e3
      subst e1 e3
      clear e2
      have hnis := hLr.tups _ (List.getElem_mem hlt)
      obtain ⟨A, hA⟩ : ∃ A, L[k] = A := ⟨_, rfl⟩
      rw [hA] at hx c0 c1 c2 hnis
      obtain ⟨ru, tu, su, ax⟩ := A
      simp only at hx c0 c1 c2 hnis
      subst hx
      have HA := hide hA
      obtain ⟨wB, hwB⟩ : ∃ wB, wr.alloc (Obj.cells #[.int .i64 ru, .slice xa tu.length xc, .int .i64 su] 27) = wB := ⟨_, rfl⟩
      have oB : Only [] wr wB := by rw [← hwB]; exact (Only.refl [] _).alloc _
      have hbox : wB.heap[wr.heap.size]? = some (Obj.cells #[.int .i64 ru, .slice xa tu.length xc, .int .i64 su] 27) := by rw [← hwB]; exact (MapKept.heap_alloc wr _).1
      have hzB : wB.heap.size = wr.heap.size + 1 := by rw [← hwB]; simp
      have hnl := hide hnis.1
      have hnisB := hnis.below oB.below
      have o1 : Below wB.heap.size wB (wB.alloc (.cells #[] 3)) := (Below.refl _ _).alloc (Nat.le_refl _) _
      have hown0 : (wB.alloc (.cells #[] 3)).ownsRow wB.heap.size 3 1 (.slice (some ⟨wB.heap.size, 0, none⟩) 0 0) 0 [] := World.ownsRow_made wB #[] 0 (Nat.le_refl _) (by decide) rfl
      have hcase := (hnisB.below o1).news
      have hsz1 : (wB.alloc (.cells #[] 3)).heap.size = wB.heap.size + 1 := by simp
      have hlB : wr.heap.size < wB.heap.size := by omega
      obtain ⟨y0, y1, y2, _, _, _⟩ := cells3a hbox
      have HwB := hide hwB
      have OB := hide oB
      have Hbox := hide hbox
      have HzB := hide hzB
      have O1 := hide o1
      have Hown0 := hide hown0
      have Hsz1 := hide hsz1
      have hn1 : tu.length ≤ 1000000 := hnl.out
      have Hcase := hide hcase
      clear hLr hnis hA hbox oB hwB hzB hnisB o1 hown0 hcase hsz1
      obtain rfl := hq.out.1
      have hwr : w.heap.size ≤ wr.heap.size := hq.out.2.2.2.size
      rcases Hcase.out with ⟨ht0, e⟩ | ⟨ad, cc, e, hnews⟩
      · subst ht0
        obtain ⟨rfl, rfl⟩ : xa = none ∧ xc = 0 := by cases e; exact ⟨rfl, rfl⟩
        clear e
        rw [List.length_nil] at HwB Hbox y1 c1
        obtain ⟨w2, hw2⟩ : ∃ w2, wB.alloc (.cells #[] 3) = w2 := ⟨_, rfl⟩
        have hown0 := Hown0.out
        have hb2 := O1.out
        rw [hw2] at hown0 hb2
        have T : Hid _ := hide (box_step (tu := []) OB.out Hbox.out HzB.out hb2 hown0 hq.out.2.1 hq.out.2.2.2.size)
        rw [List.length_nil] at T
        obtain ⟨⟨d0, d1, d2, f0, f1, f2⟩, hlt2, _⟩ := T.out
        have Hw2 := hide hw2
        obtain ⟨na, hna⟩ : ∃ na : Option Addr, some ⟨wB.heap.size, 0, none⟩ = na := ⟨_, rfl⟩
        rw [hna] at T
        have Hna := hide hna
        clear hown0 hb2 hw2 hna
        go_upto_region 5 with fail
        rw [HwB.out]
        go_wp2_with (first
          | (at_builtin; refine wpList_append_own_none rfl (.tmp 12) (.tmp 14) _ rfl wB.heap.size 3 j0 1 Try.underlying25 Hj.out (.slice (some ⟨wB.heap.size, 0, none⟩) 0 0) 0 [] rfl Hown0.out rfl ?_; rw [Hw2.out, Hna.out])
          | (at_builtin; refine wpList_append_lies _ rfl (.tmp 17) (.tmp 19) _ rfl w.heap.size 27 i0 (.agg #[.int .i64 0, .slice none 0 0, .int .i64 0]) 3 40 Try.underlying22 Hi.out Hz0.out Hz1.out Hz2.out rfl (by decide) (.slice la lk.length lc) lk.length (aflat lk) rfl T.out.2.2.2.2.2 ⟨w2.heap.size, 0, none⟩ 1 1 [.int .i64 ru, .slice na 0 0, .int .i64 su] rfl rfl T.out.2.2.2.2.1 (by simp [Value.oneCell']) (by decide) (by unfold maxLen; omega) (by omega) (by simp; omega) (w2.heap.size + 1) (by simp) ?_; intro g cap' w5 hown5 hgrow hat hlt5; have Hown5 := hide hown5; have Hgrow := hide hgrow; clear hown5 hgrow hat hlt5))
        have hrowB := row_own T.out.2.2.2.2.2
        have hb4 := T.out.2.2.2.1
        have hnew := OutIs.snoc (a := ⟨ru, [], su, .slice na 0 0⟩) hq.out.2.1 hb4 ⟨hnl.out, T.out.2.2.1⟩ Hown5.out Hgrow.out
        have hstep : Hid ((lk ++ [(⟨ru, [], su, .slice na 0 0⟩ : Ac)]).length = lk.length + 1 ∧ OutIs w.heap.size w5 (.slice (some ⟨g, 0, none⟩) (lk.length + 1) cap') (lk ++ [(⟨ru, [], su, .slice na 0 0⟩ : Ac)]) ∧ (lk ++ [(⟨ru, [], su, .slice na 0 0⟩ : Ac)]).map Ac.co = (L.take (lk.length + 1)).map Ac.co ∧ Below w.heap.size w w5) := by
          have hwr : w.heap.size ≤ wr.heap.size := hq.out.2.2.2.size
          have hb5 : Below w.heap.size w _ := hq.out.2.2.2.trans (hb4.mono (by omega))
          refine ⟨by simp, hnew, ?_, hb5.grown Hgrow.out (by simp; omega) (fun k hk => by have := hrowB k hk; omega)⟩
          rw [List.map_append, hq.out.2.2.1, List.take_succ_eq_append_getElem hlt, List.map_append, HA.out]
          rfl
        clear hnew hrowB hb4
        go_roundw
        case rel => exact ⟨lk.length + 1, _, _, cap', by omega, by go_num, rfl, hstep.out⟩
        case measure => simp [intOf]; omega
      · obtain ⟨rfl, rfl⟩ : xa = some ad ∧ xc = cc := by cases e; exact ⟨rfl, rfl⟩
        have Hnews1 := hide hnews
        clear e hnews
        go_upto_region 5 with fail
        rw [HwB.out]
        go_wp2_with (first
          | (at_builtin; refine wpList_append_own _ rfl (.tmp 12) (.tmp 14) _ rfl wB.heap.size 3 j0 (.int .i64 0) 1 8 Try.underlying25 Hj.out Hy0.out Hy1.out Hy2.out rfl (by decide) (.slice (some ⟨wB.heap.size, 0, none⟩) 0 0) 0 [] rfl Hown0.out ad tu.length xc (tu.map (.int .i64)) rfl (by simp) Hnews1.out (by intro u hu; obtain ⟨z, _, rfl⟩ := List.mem_map.1 hu; rfl) (by unfold maxLen; omega) (by omega) (by rw [Hsz1.out]; omega) ?_; intro v1 w2 hrow hgrow1 _; simp only [Nat.zero_add, List.nil_append] at hrow; obtain ⟨na, nc, rfl⟩ := row_form hrow; have T := hide (box_step OB.out Hbox.out HzB.out (O1.out.grown hgrow1 (by simp) (fun k e => by simp [Value.ownBlock] at e; omega)) hrow hq.out.2.1 hq.out.2.2.2.size); obtain ⟨⟨d0, d1, d2, f0, f1, f2⟩, hlt2, _⟩ := T.out; clear hrow hgrow1)
          | (at_builtin; refine wpList_append_lies _ rfl (.tmp 17) (.tmp 19) _ rfl w.heap.size 27 i0 (.agg #[.int .i64 0, .slice none 0 0, .int .i64 0]) 3 40 Try.underlying22 Hi.out Hz0.out Hz1.out Hz2.out rfl (by decide) (.slice la lk.length lc) lk.length (aflat lk) rfl T.out.2.2.2.2.2 ⟨w2.heap.size, 0, none⟩ 1 1 [.int .i64 ru, .slice na tu.length nc, .int .i64 su] rfl rfl T.out.2.2.2.2.1 (by simp [Value.oneCell']) (by decide) (by unfold maxLen; omega) (by omega) (by simp; omega) (w2.heap.size + 1) (by simp) ?_; intro g cap' w5 hown5 hgrow hat hlt5; have Hown5 := hide hown5; have Hgrow := hide hgrow; clear hown5 hgrow hat hlt5))
        have hrowB := row_own T.out.2.2.2.2.2
        have hb4 := T.out.2.2.2.1
        have hnew := OutIs.snoc (a := ⟨ru, tu, su, .slice na tu.length nc⟩) hq.out.2.1 hb4 ⟨hnl.out, T.out.2.2.1⟩ Hown5.out Hgrow.out
        have hstep : Hid ((lk ++ [(⟨ru, tu, su, .slice na tu.length nc⟩ : Ac)]).length = lk.length + 1 ∧ OutIs w.heap.size w5 (.slice (some ⟨g, 0, none⟩) (lk.length + 1) cap') (lk ++ [(⟨ru, tu, su, .slice na tu.length nc⟩ : Ac)]) ∧ (lk ++ [(⟨ru, tu, su, .slice na tu.length nc⟩ : Ac)]).map Ac.co = (L.take (lk.length + 1)).map Ac.co ∧ Below w.heap.size w w5) := by
          have hwr : w.heap.size ≤ wr.heap.size := hq.out.2.2.2.size
          have hb5 : Below w.heap.size w _ := hq.out.2.2.2.trans (hb4.mono (by omega))
          refine ⟨by simp, hnew, ?_, hb5.grown Hgrow.out (by simp; omega) (fun k hk => by have := hrowB k hk; omega)⟩
          rw [List.map_append, hq.out.2.2.1, List.take_succ_eq_append_getElem hlt, List.map_append, HA.out]
          rfl
        clear hnew hrowB hb4
        go_roundw
        case rel => exact ⟨lk.length + 1, _, _, cap', by omega, by go_num, rfl, hstep.out⟩
        case measure => simp [intOf]; omega
    · obtain rfl : k = L.length := by omega
      have hlk := hq.out.1
      have hco : lk.map Ac.co = L.map Ac.co := by rw [hq.out.2.2.1, List.take_length]
      have hout : OutIs w.heap.size wr (.slice la L.length lc) lk := hq.out.2.1
      have Hco := hide hco
      have Hout := hide hout
      have HB := hide hq.out.2.2.2
      clear hq hlk hco hout
      go_wp2
      go_ret
      exact ⟨_, lk, rfl, Hout.out, Hco.out, HB.out⟩
/-- The blocks of the tuples. -/
def tupBlocks (l : List Ac) : List Nat := l.filterMap fun a => a.x.ownBlock

set_option maxRecDepth 100000 in
set_option maxHeartbeats 2000000 in
theorem spoil_any (B : Nat) (va : Option Addr) (vc : Nat) (S : List Ac) (w : World) (h : Spoils B (.slice va S.length vc) S w) (hS1 : S.length ≤ 1000000) (_hc : S.length ≤ vc) (hT : ∀ i (h : i < S.length), S[i].tup.length ≤ 1000000) :
    Calls Try.prog 23 #[.slice va S.length vc] w fun r w' => r = .returned (.tuple #[]) ∧ Spoils B (.slice va S.length vc) S w' ∧ Only (tupBlocks S) w w' := by
  have H := hide h
  have HT := hide hT
  clear h hT
  go_enter Try.func23, Try.ntmps23
  go_wp2_with fail
  go_loopw [6] (fun vi wx => ∃ i : Nat, i ≤ S.length ∧ vi = .int .i64 i ∧ Hid (Only (tupBlocks S) w wx ∧ Spoils B (.slice va S.length vc) S wx)) (fun i _ => S.length - (intOf i).toNat)
  case atStart => exact ⟨0, Nat.zero_le _, rfl, Only.refl _ _, H.out⟩
  case round =>
    obtain ⟨i, hiS, rfl, hq2⟩ := hrel
    obtain ⟨wo, rfl⟩ : ∃ wo : World, wo = wr := ⟨_, rfl⟩
    by_cases hlt : i < S.length
    · obtain ⟨b, off, cap, xa, xc, e, hx, c1⟩ := hq2.out.2.1 i hlt
      injection e with e1 e2 e3
      subst e1 e3
      clear e2 hx
      have hT1 := HT.out i hlt
      go_wp2_with fail
      go_loopw [15] (fun vk wx => ∃ k : Nat, k ≤ S[i].tup.length ∧ vk = .int .i64 k ∧ Hid (Only (tupBlocks S) w wx ∧ Spoils B (.slice (some ⟨b, off, none⟩) S.length vc) S wx)) (fun k _ => S[i].tup.length - (intOf k).toNat)
      case atStart => exact ⟨0, Nat.zero_le _, rfl, hq2.out⟩
      case round =>
        obtain ⟨k, hkn, rfl, hq3⟩ := hrel
        by_cases hlk : k < S[i].tup.length
        · obtain ⟨b', off', cap', g, xc', z, e, hx', hBg, hnc, hcm, c1', cz, fz⟩ := hq3.out.2.at hlt hlk
          injection e with e1 e2 e3
          injection e1 with e1
          injection e1 with e1 e4 e5
          subst e1 e4
          clear e2 e3 e5
          have Hx' := hide hx'
          clear hx'
          have Hg : Hid (g ∈ tupBlocks S) := hide (List.mem_filterMap.2 ⟨S[i], List.getElem_mem hlt, by rw [Hx'.out]; rfl⟩)
          go_wp2
          go_roundw
          case rel => exact ⟨k + 1, by omega, by go_num, hq3.out.1.setCell (p := ⟨g, k, none⟩) (.inl Hg.out) _, hq3.out.2.poke (k := k) (List.getElem_mem hlt) Hx'.out _⟩
          case measure => simp [intOf]; omega
        · obtain rfl : k = S[i].tup.length := by omega
          go_wp2
          go_roundw
          case rel => exact ⟨i + 1, by omega, by go_num, hq3.out⟩
          case measure => simp [intOf]; omega
    · obtain rfl : i = S.length := by omega
      go_wp2
      go_end0
      exact ⟨rfl, hq2.out.2, hq2.out.1⟩
end Go.Proofs.Ytelgajgghgknnaa
