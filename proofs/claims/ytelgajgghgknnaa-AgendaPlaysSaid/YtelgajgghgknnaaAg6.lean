/- The contract of an agenda's Change; an agenda that is not there. -/
import Derived.Test.YtelgajgghgknnaaAg5
namespace Go.Proofs.Ytelgajgghgknnaa
open Go Go.RowKit Go.MapKept Go.Sort

theorem AgOnly.then {b : Nat} {v v' : Value} {w w1 w2 : World} (h : AgOnly b v w w1) (hs : Stays v v' w) (k : AgOnly b v' w1 w2) : AgOnly b v w w2 :=
  Only.step h k fun i hi => by
    simp only [List.mem_cons, Option.mem_toList] at hi ⊢
    rcases hi with rfl | hi
    · exact .inl (.inl rfl)
    · rcases hs i hi with q | q
      · exact .inl (.inr q)
      · exact .inr q
theorem Stays.then {v v' v'' : Value} {w w1 : World} (h : Stays v v' w) (k : Stays v' v'' w1) (hz : w.heap.size ≤ w1.heap.size) : Stays v v'' w := fun i hi => by
  rcases k i hi with q | q
  · exact h i q
  · exact .inr (Nat.le_trans hz q)
theorem Stays.refl (v : Value) (w : World) : Stays v v w := fun _ h => .inl h

/-- The entries with all of xs laid among them. -/
inductive LaidAll (l : List En) : List Ac → List En → Prop
  | nil : LaidAll l [] l
  | snoc {xs : List Ac} {l1 l2 : List En} {x : Ac} : LaidAll l xs l1 → LaidAs l1 x l2 → LaidAll l (xs ++ [x]) l2

theorem LaidAs.length {l l' : List En} {x : Ac} (h : LaidAs l x l') : l'.length ≤ l.length + 1 := by
  rcases h with ⟨rfl, _⟩ | ⟨_, i, y, hi, _, rfl⟩
  · omega
  · rw [laid_length _ _ _ hi]; exact Nat.le_refl _
theorem LaidAll.length {l l' : List En} {xs : List Ac} (h : LaidAll l xs l') : l'.length ≤ l.length + xs.length := by
  induction h with
  | nil => simp
  | snoc _ h2 ih => have := h2.length; simp; omega
theorem dropped_length (l : List En) (x : Ac) : (dropped l x).length ≤ l.length := by
  unfold dropped
  split
  · rw [List.length_eraseIdx]; split <;> omega
  · exact Nat.le_refl _
theorem dropped_all_length (g : List Ac) : ∀ (l : List En), (g.foldl dropped l).length ≤ l.length := by
  induction g with
  | nil => intro l; exact Nat.le_refl _
  | cons x g ih => intro l; exact Nat.le_trans (ih _) (dropped_length l x)

theorem newTups_sub {n : Nat} {l l' : List En} (h : ∀ e ∈ l', e ∈ l) : NewTups n l l' := fun e he => .inl ⟨e, h e he, rfl⟩
theorem newTups_dropped (n : Nat) (G : List Ac) : ∀ l : List En, NewTups n l (G.foldl dropped l) := by
  induction G with
  | nil => exact fun l => NewTups.refl _ _
  | cons x G ih =>
    intro l
    refine NewTups.trans (b := dropped l x) (m := n) (newTups_sub fun e he => ?_) (ih _) (Nat.le_refl _)
    unfold dropped at he
    split at he
    · exact List.mem_of_mem_eraseIdx he
    · exact he

theorem foldl_take_succ (l : List En) (g : List Ac) {k : Nat} (h : k < g.length) : (g.take (k + 1)).foldl dropped l = dropped ((g.take k).foldl dropped l) g[k] := by
  rw [List.take_succ_eq_append_getElem h, List.foldl_append]
  rfl

set_option maxRecDepth 100000 in
set_option maxHeartbeats 4000000 in
theorem change_new (B b : Nat) (s : Int) (v : Value) (l : List En) (vg vc : Value) (G C : List Ac) (w : World) (h : AgIs B w b s v l) (hB : B ≤ w.heap.size)
    (hg : ∀ w', AgOnly b v w w' → ActsIs w' vg G) (hc : ∀ w', AgOnly b v w w' → ActsIs w' vc C) (hlc : l.length + C.length < 100000) :
    Calls Try.prog 11 #[.pointer (some ⟨b, 0, none⟩), vg, vc] w fun r w' => r = .returned (.tuple #[]) ∧ ∃ v' l', AgIs B w' b s v' l' ∧ LaidAll (G.foldl dropped l) C l' ∧ AgOnly b v w w' ∧ Stays v v' w ∧ NewTups w.heap.size l l' := by
  have hltb := lt_of_heap h.blk
  obtain ⟨vga, vgc, rfl⟩ := (hg w (Only.refl _ _)).form
  obtain ⟨vca, vcc, rfl⟩ := (hc w (Only.refl _ _)).form
  have hGl := (hg w (Only.refl _ _)).len
  have hCl := (hc w (Only.refl _ _)).len
  have H := hide h
  have Hg := hide hg
  have Hc := hide hc
  clear h hg hc
  go_enter Try.func11, Try.ntmps11
  go_wp2_with fail
  go_loopw [14] (fun vi wr => ∃ k : Nat, k ≤ G.length ∧ vi = .int .i64 k ∧ Hid (∃ vk, AgIs B wr b s vk ((G.take k).foldl dropped l) ∧ AgOnly b v w wr ∧ Stays v vk w)) (fun i _ => G.length - (intOf i).toNat)
  case atStart => exact ⟨0, Nat.zero_le _, rfl, v, H.out, Only.refl _ _, Stays.refl _ _⟩
  case round =>
    obtain ⟨k, hk, rfl, hq⟩ := hrel
    by_cases hlk : k < G.length
    · obtain ⟨vk, hA, hO, hS⟩ := hq.out
      have hL := Hg.out wr hO
      obtain ⟨gb, off, cap, xa, xc, e, hx, c0, c1, c2⟩ := hL.at hlk
      injection e with e1 e2 e3
      subst e1 e3
      clear e2
      have hnis := hL.tups _ (List.getElem_mem hlk)
      have hft := foldl_take_succ l G hlk
      obtain ⟨A, hAe⟩ : ∃ A, G[k] = A := ⟨_, rfl⟩
      rw [hAe] at hx c0 c1 c2 hnis hft
      obtain ⟨ru, tu, su, ax⟩ := A
      simp only at hx c0 c1 c2 hnis
      subst hx
      obtain ⟨W, hW⟩ : ∃ W, wr.alloc (Obj.cells #[.int .i64 ru, .slice xa tu.length xc, .int .i64 su] 27) = W := ⟨_, rfl⟩
      have hb1 : Below wr.heap.size wr W := by rw [← hW]; exact ((Only.refl [] wr).alloc _).below
      have hbox := heap_alloc0 wr (Obj.cells #[.int .i64 ru, .slice xa tu.length xc, .int .i64 su] 27)
      have hsz : W.heap.size = wr.heap.size + 1 := by rw [← hW]; simp
      rw [hW] at hbox
      obtain ⟨d0, d1, d2, _⟩ := cells3a hbox
      have oD : Below W.heap.size W W.drew := (Only.drew (Only.refl [] W)).below
      have hwr := hO.size
      have hd := drop_any B b s vk ((G.take k).foldl dropped l) ⟨ru, tu, su, .slice xa tu.length xc⟩ W.drew ((hA.below hb1).below oD) ((hnis.below hb1).below oD)
      rw [← hft] at hd
      unfold Ac.val at hd
      have hkeep : ∀ V, AgOnly b vk W.drew V → AgOnly b v w V ∧ V.cell? ⟨wr.heap.size, 0, none⟩ = some (.int .i64 ru) ∧ V.cell? ⟨wr.heap.size, 1, none⟩ = some (.slice xa tu.length xc) ∧ V.cell? ⟨wr.heap.size, 2, none⟩ = some (.int .i64 su) := fun V hV => by
        have hb2 : Only (b :: vk.ownBlock.toList) W V := (Only.of_below oD _).trans hV
        have hn : wr.heap.size ∉ b :: vk.ownBlock.toList := by
          simp only [List.mem_cons, Option.mem_toList, not_or]
          exact ⟨by omega, fun e => by have := (hA.ens.own.lt _ e).2; omega⟩
        have hz : wr.heap.size < W.heap.size := by omega
        exact ⟨hO.then hS ((Only.of_below hb1 _).trans hb2), (hb2.cell (p := ⟨wr.heap.size, 0, none⟩) hz hn).trans d0, (hb2.cell (p := ⟨wr.heap.size, 1, none⟩) hz hn).trans d1, (hb2.cell (p := ⟨wr.heap.size, 2, none⟩) hz hn).trans d2⟩
      have hzw : w.heap.size ≤ W.drew.heap.size := by show w.heap.size ≤ W.heap.size; omega
      have Hd := hide hd
      have HW := hide hW
      have Hkeep := hide hkeep
      have HS := hide hS
      have Hzw := hide hzw
      clear hd hkeep hW hb1 hbox hsz oD hA hO hS hq hL hnis hft hAe hwr hzw
      go_upto_region 4 with fail
      rw [HW.out]
      go_wp2_with fail
      go_region_held3 (fun V => V.cell? ⟨wr.heap.size, 0, none⟩ = some (.int .i64 ru) ∧ V.cell? ⟨wr.heap.size, 1, none⟩ = some (.slice xa tu.length xc) ∧ V.cell? ⟨wr.heap.size, 2, none⟩ = some (.int .i64 su)) (go_keep)
        ((go_at_call 31; have hqq := Hd.out; with_reducible refine Calls.mono hqq ?_; clear hqq; rintro r V ⟨rfl, v', h1, h2, h3⟩; obtain ⟨y0, y1, y2, y3⟩ := Hkeep.out V h2; have H1 := hide h1; have H2 := hide y0; have H3 := hide (Stays.then HS.out h3 Hzw.out); clear h1 h2 h3 y0))
      clear c0 c1 c2 d0 d1 d2 y1 y2 y3 Hkeep Hd HS HW
      go_wp2
      go_roundw
      case rel => exact ⟨k + 1, by omega, by go_num, v', H1.out, H2.out, H3.out⟩
      case measure => simp [intOf]; omega
    · obtain rfl : k = G.length := by omega
      have hq1 : Hid (∃ vk, AgIs B wr b s vk (G.foldl dropped l) ∧ AgOnly b v w wr ∧ Stays v vk w) := by have := hq.out; rwa [List.take_length] at this
      clear hq
      have hfl := dropped_all_length G l
      obtain ⟨l0, hl0⟩ : ∃ l0, G.foldl dropped l = l0 := ⟨_, rfl⟩
      rw [hl0] at hq1 hfl
      have Hl0 := hide hl0
      clear hl0
      obtain ⟨wg, rfl⟩ : ∃ wg : World, wg = wr := ⟨_, rfl⟩
      go_wp2_with fail
      go_loopw [26] (fun vi wr => ∃ k : Nat, k ≤ C.length ∧ vi = .int .i64 k ∧ Hid (∃ vk lk, AgIs B wr b s vk lk ∧ LaidAll l0 (C.take k) lk ∧ AgOnly b v w wr ∧ Stays v vk w ∧ NewTups w.heap.size l0 lk)) (fun i _ => C.length - (intOf i).toNat)
      case atStart =>
        obtain ⟨vk, h1, h2, h3⟩ := hq1.out
        exact ⟨0, Nat.zero_le _, rfl, vk, l0, h1, .nil, h2, h3, NewTups.refl _ _⟩
      case round =>
        obtain ⟨k, hk, rfl, hq⟩ := hrel
        by_cases hlk : k < C.length
        · obtain ⟨vk, lk, hA, hLd, hO, hS, hN⟩ := hq.out
          have hL := Hc.out wr hO
          obtain ⟨gb, off, cap, xa, xc, e, hx, c0, c1, c2⟩ := hL.at hlk
          injection e with e1 e2 e3
          subst e1 e3
          clear e2
          have hnis := hL.tups _ (List.getElem_mem hlk)
          have htk := List.take_succ_eq_append_getElem hlk
          obtain ⟨A, hAe⟩ : ∃ A, C[k] = A := ⟨_, rfl⟩
          rw [hAe] at hx c0 c1 c2 hnis htk
          obtain ⟨ru, tu, su, ax⟩ := A
          simp only at hx c0 c1 c2 hnis
          subst hx
          obtain ⟨W, hW⟩ : ∃ W, wr.alloc (Obj.cells #[.int .i64 ru, .slice xa tu.length xc, .int .i64 su] 27) = W := ⟨_, rfl⟩
          have hb1 : Below wr.heap.size wr W := by rw [← hW]; exact ((Only.refl [] wr).alloc _).below
          have hbox := heap_alloc0 wr (Obj.cells #[.int .i64 ru, .slice xa tu.length xc, .int .i64 su] 27)
          have hsz : W.heap.size = wr.heap.size + 1 := by rw [← hW]; simp
          rw [hW] at hbox
          obtain ⟨d0, d1, d2, _⟩ := cells3a hbox
          have oD : Below W.heap.size W W.drew := (Only.drew (Only.refl [] W)).below
          have hwr := hO.size
          have hlk2 : lk.length < 100000 := by have := hLd.length; simp at this; omega
          have hd := lay_new B b s vk lk ⟨ru, tu, su, .slice xa tu.length xc⟩ W.drew ((hA.below hb1).below oD) hlk2 (by show B ≤ W.heap.size; omega) ((hnis.below hb1).below oD)
          unfold Ac.val at hd
          have hkeep : ∀ V, AgOnly b vk W.drew V → AgOnly b v w V ∧ V.cell? ⟨wr.heap.size, 0, none⟩ = some (.int .i64 ru) ∧ V.cell? ⟨wr.heap.size, 1, none⟩ = some (.slice xa tu.length xc) ∧ V.cell? ⟨wr.heap.size, 2, none⟩ = some (.int .i64 su) := fun V hV => by
            have hb2 : Only (b :: vk.ownBlock.toList) W V := (Only.of_below oD _).trans hV
            have hn : wr.heap.size ∉ b :: vk.ownBlock.toList := by
              simp only [List.mem_cons, Option.mem_toList, not_or]
              exact ⟨by omega, fun e => by have := (hA.ens.own.lt _ e).2; omega⟩
            have hz : wr.heap.size < W.heap.size := by omega
            exact ⟨hO.then hS ((Only.of_below hb1 _).trans hb2), (hb2.cell (p := ⟨wr.heap.size, 0, none⟩) hz hn).trans d0, (hb2.cell (p := ⟨wr.heap.size, 1, none⟩) hz hn).trans d1, (hb2.cell (p := ⟨wr.heap.size, 2, none⟩) hz hn).trans d2⟩
          have hzw : w.heap.size ≤ W.drew.heap.size := by show w.heap.size ≤ W.heap.size; omega
          have Hd := hide hd
          have HW := hide hW
          have Hkeep := hide hkeep
          have HS := hide hS
          have HLd := hide hLd
          have HN := hide hN
          have Hzw := hide hzw
          have Htk := hide htk
          clear hd hkeep hW hb1 hbox hsz oD hA hO hS hq hL hnis hAe hwr hzw hLd htk hlk2 hN
          go_upto_region 9 with fail
          rw [HW.out]
          go_wp2_with fail
          go_region_held3 (fun V => V.cell? ⟨wr.heap.size, 0, none⟩ = some (.int .i64 ru) ∧ V.cell? ⟨wr.heap.size, 1, none⟩ = some (.slice xa tu.length xc) ∧ V.cell? ⟨wr.heap.size, 2, none⟩ = some (.int .i64 su)) (go_keep)
            ((go_at_call 32; have hqq := Hd.out; with_reducible refine Calls.mono hqq ?_; clear hqq; rintro r V ⟨rfl, v', l', h1, h4, h2, h3, h5⟩; have H5 := hide (NewTups.trans HN.out h5 Hzw.out); clear h5; obtain ⟨y0, y1, y2, y3⟩ := Hkeep.out V h2; have H1 := hide h1; have H2 := hide y0; have H3 := hide (Stays.then HS.out h3 Hzw.out); have H4 := hide h4; clear h1 h2 h3 h4 y0))
          clear c0 c1 c2 d0 d1 d2 y1 y2 y3 Hkeep Hd HS HW
          go_wp2
          go_roundw
          case rel => exact ⟨k + 1, by omega, by go_num, v', l', H1.out, by rw [Htk.out]; exact .snoc HLd.out H4.out, H2.out, H3.out, H5.out⟩
          case measure => simp [intOf]; omega
        · obtain rfl : k = C.length := by omega
          have hq2 : Hid (∃ vk lk, AgIs B wr b s vk lk ∧ LaidAll l0 C lk ∧ AgOnly b v w wr ∧ Stays v vk w ∧ NewTups w.heap.size l0 lk) := by have := hq.out; rwa [List.take_length] at this
          clear hq hq1
          go_wp2
          go_end0
          obtain ⟨vk, lk, h1, h2, h3, h4, h5⟩ := hq2.out
          exact ⟨rfl, vk, lk, h1, by rw [Hl0.out]; exact h2, h3, h4, (by rw [← Hl0.out]; exact newTups_dropped _ G l : NewTups w.heap.size l l0).trans h5 (Nat.le_refl _)⟩

theorem change_any (B b : Nat) (s : Int) (v : Value) (l : List En) (vg vc : Value) (G C : List Ac) (w : World) (h : AgIs B w b s v l) (hB : B ≤ w.heap.size)
    (hg : ∀ w', AgOnly b v w w' → ActsIs w' vg G) (hc : ∀ w', AgOnly b v w w' → ActsIs w' vc C) (hlc : l.length + C.length < 100000) :
    Calls Try.prog 11 #[.pointer (some ⟨b, 0, none⟩), vg, vc] w fun r w' => r = .returned (.tuple #[]) ∧ ∃ v' l', AgIs B w' b s v' l' ∧ LaidAll (G.foldl dropped l) C l' ∧ AgOnly b v w w' ∧ Stays v v' w :=
  (change_new B b s v l vg vc G C w h hB hg hc hlc).mono fun _ _ ⟨h0, v', l', h1, h2, h3, h4, _⟩ => ⟨h0, v', l', h1, h2, h3, h4⟩
end Go.Proofs.Ytelgajgghgknnaa
