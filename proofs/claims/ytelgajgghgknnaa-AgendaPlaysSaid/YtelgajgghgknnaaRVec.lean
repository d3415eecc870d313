/- The contract of witanref26.Vector. -/
import Derived.Test.YtelgajgghgknnaaRef26
import Derived.BigQuiet
import Derived.Laws.AppendOwnNone
import Derived.Deep.QuietTactic
namespace Go.Proofs.Ytelgajgghgknnaa
open Go Go.RowKit Go.MapKept Go.Sort

theorem falls_unique {l m : List Int} (hp : m.Perm l) (hs : m.Pairwise (fun x y => y ≤ x)) : m = falls l := by
  have h1 : (falls l).Perm l := (List.reverse_perm _).trans (List.mergeSort_perm _ _)
  have h2 : (falls l).Pairwise (fun x y => y ≤ x) := by
    unfold falls
    rw [List.pairwise_reverse]
    have := List.pairwise_mergeSort (le := fun x y : Int => decide (x ≤ y)) (fun a b c h1 h2 => by simp at *; omega) (fun a b => by simp; omega) l
    exact this.imp fun h => by simpa using h
  exact List.Perm.eq_of_pairwise (le := fun x y => y ≤ x) (fun a b _ _ h1 h2 => by omega) hs h2 (hp.trans h1.symm)

theorem ins_perm (f l : List Int) (x : Int) (k i : Nat) (hi : i < l.length) (hx : l[i] = x) (hp : f.Perm (l.take i)) : (f.take k ++ [x] ++ f.drop k).Perm (l.take (i + 1)) := by
  rw [List.take_succ_eq_append_getElem hi, hx]
  have h1 : (f.take k ++ [x] ++ f.drop k).Perm (f.take k ++ f.drop k ++ [x]) := by
    rw [List.append_assoc, List.append_assoc]
    exact List.Perm.append_left _ List.perm_append_comm
  rw [List.take_append_drop] at h1
  exact h1.trans (hp.append_right _)

theorem ins_falls (f : List Int) (x : Int) (k : Nat) (hk : k ≤ f.length) (hf : f.Pairwise (fun x y => y ≤ x)) (h1 : ∀ j (h : j < f.length), j < k → x ≤ f[j]) (h2 : ∀ (h : k < f.length), f[k] < x) : (f.take k ++ [x] ++ f.drop k).Pairwise (fun x y => y ≤ x) := by
  have ht : ∀ y ∈ f.take k, x ≤ y := fun y hy => by
    obtain ⟨j, hj, rfl⟩ := List.getElem_of_mem hy
    rw [List.getElem_take]
    have hj' : j < min k f.length := by simpa using hj
    exact h1 j (by omega) (by omega)
  have hd : ∀ y ∈ f.drop k, y ≤ x := fun y hy => by
    obtain ⟨j, hj, rfl⟩ := List.getElem_of_mem hy
    rw [List.getElem_drop]
    have hj' : j < f.length - k := by simpa using hj
    have hkf : k < f.length := by omega
    have h3 := h2 hkf
    rcases Nat.eq_zero_or_pos j with rfl | q
    · simp only [Nat.add_zero]; omega
    · have := List.pairwise_iff_getElem.1 hf k (k + j) hkf (by omega) (by omega)
      omega
  have hb : ∀ y ∈ f.take k, ∀ z ∈ f.drop k, z ≤ y := fun y hy z hz => by have := ht y hy; have := hd z hz; omega
  rw [List.append_assoc, List.pairwise_append]
  refine ⟨hf.sublist (List.take_sublist _ _), ?_, fun y hy z hz => ?_⟩
  · rw [List.singleton_append, List.pairwise_cons]
    exact ⟨hd, hf.sublist (List.drop_sublist _ _)⟩
  · rcases List.mem_append.1 hz with q | q
    · simp only [List.mem_singleton] at q
      subst q
      exact ht y hy
    · exact hb y hy z q

theorem int_info : (Try.prog.info? 3).map (fun i => (i.zero, i.size, i.bytes)) = some (some (.int .i64 0), 1, 8) := by kernel_rfl
theorem int_parts : ∃ i, Try.prog.info? 3 = some i ∧ i.zero = some (.int .i64 0) ∧ i.size = 1 ∧ i.bytes = 8 := by
  have h := int_info
  cases hi : Try.prog.info? 3 with
  | none => simp [hi] at h
  | some i =>
    simp [hi] at h
    exact ⟨i, rfl, h.1, h.2.1, h.2.2⟩

/-- The state of the loop. -/
def FIs (B : Nat) (w : World) (v : Value) (f l : List Int) (i : Nat) : Prop := w.ownsRow B 3 1 v i (f.map (.int .i64)) ∧ f.length = i ∧ f.Perm (l.take i) ∧ f.Pairwise (fun x y => y ≤ x)

set_option maxRecDepth 100000 in
set_option maxHeartbeats 4000000 in
theorem rvector_any (s : Int) (x : Value) (l : List Int) (w : World) (hx : NIs w x l) :
    Calls Try.prog 38 #[.int .u8 s, x] w fun e w' => ∃ v, e = .returned v ∧ NIs w' v (vec s l) ∧ Below w.heap.size w w' := by
  obtain ⟨xa, xc, rfl⟩ := hx.form
  have hlx := hx.1
  obtain ⟨i0, hi, hz0, hz1, hz2⟩ := int_parts
  have Hi := hide hi
  have Hz0 := hide hz0
  have Hz1 := hide hz1
  have Hz2 := hide hz2
  have Hx := hide hx
  clear hx hi hz0 hz1 hz2
  go_enter Try.func38, Try.ntmps38
  go_wp2
  go_loopw [5, 6] (fun vo vi wr => ∃ (i : Nat) (fa : Option Addr) (fc : Nat) (f : List Int), i ≤ l.length ∧ vi = .int .i64 i ∧ vo = .slice fa i fc ∧ Hid (FIs w.heap.size wr (.slice fa i fc) f l i) ∧ Hid (Below w.heap.size w wr)) (fun _ i _ => l.length - (intOf i).toNat)
  case atStart => exact ⟨0, none, 0, [], Nat.zero_le _, rfl, rfl, ⟨World.ownsRow_nil _ _ _ _, rfl, by simp, by simp⟩, Below.refl _ _⟩
  case round =>
    obtain ⟨i, fa, fc, f, hil, rfl, rfl, hF, hb⟩ := hrel
    obtain ⟨wo, rfl⟩ : ∃ wo : World, wo = wr := ⟨_, rfl⟩
    by_cases hlt : i < l.length
    · obtain ⟨b, o, cp, e, d0⟩ := (Hx.out.below hb.out).at hlt
      injection e with e1 e2 e3
      subst e1 e3
      clear e2
      obtain ⟨q, hq⟩ : ∃ q, l[i] = q := ⟨_, rfl⟩
      rw [hq] at d0
      have Hq := hide hq
      have hbl := hide (lt_of_cell d0)
      clear hq
      rcases hF.out.1.2 with ⟨e, h0⟩ | ⟨g, cap, cur, e, hbg, hg, hcp, _⟩
      · injection e with e1 e2 e3
        subst e1 e3
        clear e2
        subst h0
        have hf0 : f = [] := List.eq_nil_of_length_eq_zero hF.out.2.1
        have Hf0 := hide hf0
        clear hf0
        have i2 : (0 : Int) < (l.length : Int) := by omega
        go_wp2_with fail
        go_loopw [7] (fun vk wr2 => vk = .int .i64 0 ∧ Hid (Only [] wo wr2)) (fun _ _ => 0)
        case atStart => exact ⟨rfl, Only.refl _ _⟩
        case round =>
          obtain ⟨rfl, hoo⟩ := hrel
          go_wp2_with fail
          go_quiet (fail)
          go_upto_region 8 with fail
          obtain ⟨V, hV⟩ : ∃ V, wr.drewN nq = V := ⟨_, rfl⟩
          have hVo : Only [] wo V := by rw [← hV]; exact hoo.out.drewN _
          rw [hV]
          clear hV
          have HVo := hide hVo
          have hzV : wo.heap.size ≤ V.heap.size := hVo.size
          have Hown0 := hide (World.ownsRow_made (e := 3) (size := 1) V #[] 0 (Nat.le_refl V.heap.size) (by decide) rfl)
          have hb0 : Below V.heap.size V (V.alloc (.cells #[] 3)) := (Below.refl _ _).alloc (Nat.le_refl _) _
          have Hb0 := hide hb0
          have y1 := (hb0.cell (p := ⟨b, o + 0, none⟩) (Nat.lt_of_lt_of_le hbl.out hzV)).trans ((HVo.out.cell (p := ⟨b, o + 0, none⟩) hbl.out (by simp)).trans d0)
          simp only [Nat.add_zero] at y1
          have Hown1 := hide (Hown0.out.alloc (Obj.cells #[.int .i64 q] 3))
          have Hn2 := hide (World.news_of_block (cs := #[.int .i64 q]) (t := 3) (fr := (0, 0)) (heap_alloc_new (V.alloc (.cells #[] 3)) (Obj.cells #[.int .i64 q] 3)))
          clear hVo hb0
          go_upto_region 10 with (at_builtin; refine wpList_append_own _ rfl (.tmp 37) (.tmp 42) _ rfl V.heap.size 3 i0 (.int .i64 0) 1 8 Try.underlying25 Hi.out Hz0.out Hz1.out Hz2.out rfl (by decide) (.slice (some ⟨V.heap.size, 0, none⟩) 0 0) 0 [] rfl Hown1.out ⟨V.heap.size + 1, 0, none⟩ 1 1 [.int .i64 q] rfl rfl (by simpa using Hn2.out) (by simp [Value.oneCell']) (by decide) (by omega) (by simp; omega) ?_; intro v2 w2 hown2 hgrow2 _; simp only [Nat.zero_add, List.nil_append] at hown2; obtain ⟨n2a, n2c, rfl⟩ := row_form hown2; have Hb2 := hide ((Hb0.out.alloc (by simp) _).grown hgrow2 (by simp; omega) (fun k e => row_own Hown1.out k e)); have Hown2 := hide hown2; clear hown2 hgrow2 y1)
          go_wp2_with (at_builtin; refine wpList_append_own_none rfl (.tmp 44) (.tmp 47) _ rfl V.heap.size 3 i0 1 Try.underlying25 Hi.out (.slice n2a 1 n2c) 1 [.int .i64 q] rfl Hown2.out rfl ?_)
          have hnew : Hid (FIs w.heap.size w2 (.slice n2a 1 n2c) [q] l 1) := by
            have hp := ins_perm f l q 0 0 hlt Hq.out hF.out.2.2.1
            rw [Hf0.out] at hp
            exact ⟨owns_base Hown2.out (by have := hb.out.size; omega), rfl, by simpa using hp, by simp⟩
          have hbw : Hid (Below w.heap.size w w2) := by
            have q1 : Below w.heap.size w V := below_only hb.out HVo.out (by simp) hb.out.size
            exact q1.trans (Hb2.out.mono q1.size)
          go_wp2
          go_roundw
          case rel => exact ⟨1, _, _, _, by omega, by go_num, rfl, hnew.out, hbw.out⟩
          case measure => simp [intOf]; omega
      · injection e with e1 e2 e3
        subst e1 e3
        clear e2
        have hcell : ∀ j (h : j < f.length), wo.cell? ⟨g, j, none⟩ = some (.int .i64 f[j]) := fun j h => by
          have := hF.out.1.cells (g := g) rfl j (.int .i64 f[j]) (by simp [h])
          simpa only [Addr.add_lit, Nat.zero_add] using this
        have hfl := hF.out.2.1
        have Hfl := hide hfl
        have Hcell := hide hcell
        have hgl := hide (lt_of_heap hg)
        have hcp' : i ≤ fc := hcp
        clear hcell hfl hg hcp hbg
        go_wp2_with fail
        go_loopw [7] (fun vk wr2 => ∃ k : Nat, k ≤ i ∧ vk = .int .i64 k ∧ Hid (∀ j (h : j < f.length), j < k → q ≤ f[j]) ∧ Hid (Only [] wo wr2)) (fun k _ => i - (intOf k).toNat)
        case atStart => exact ⟨0, Nat.zero_le _, rfl, fun j _ h => by omega, Only.refl _ _⟩
        case round =>
          obtain ⟨k, hki, rfl, hle, hoo⟩ := hrel
          by_cases hk : k < i
          · have hkf : k < f.length := by have := Hfl.out; omega
            have x0 := (hoo.out.cell (p := ⟨g, k, none⟩) hgl.out (by simp)).trans (Hcell.out k hkf)
            have y0 := (hoo.out.cell (p := ⟨b, o + i, none⟩) hbl.out (by simp)).trans d0
            obtain ⟨fk, hfk⟩ : ∃ z, f[k] = z := ⟨_, rfl⟩
            rw [hfk] at x0
            have Hfk := hide hfk
            clear hfk
            have i1 : (k : Int) < (i : Int) := by omega
            have i2 : (i : Int) < (l.length : Int) := by omega
            have i3 : decide ((k : Int) < (i : Int)) = true := decide_eq_true (by omega)
            by_cases hge : q ≤ fk
            · go_wp2_with fail
              go_quiet (fail)
              go_wp2
              go_roundw
              case rel => exact ⟨k + 1, by omega, by go_num, fun j h hj => by
                rcases Nat.lt_or_ge j k with q' | q'
                · exact hle.out j h q'
                · obtain rfl : j = k := by omega
                  rw [Hfk.out]
                  exact hge, hoo.out.drewN _⟩
              case measure => simp [intOf]; omega
            · go_wp2_with fail
              go_quiet (fail)
              have z1 : ¬ fc = k := by omega
              go_upto_region 8 with fail
              obtain ⟨V, hV⟩ : ∃ V, wr.drewN nq = V := ⟨_, rfl⟩
              have hVo : Only [] wo V := by rw [← hV]; exact hoo.out.drewN _
              rw [hV]
              clear hV
              have HVo := hide hVo
              have hzV : wo.heap.size ≤ V.heap.size := hVo.size
              have hown0 : (V.alloc (.cells #[] 3)).ownsRow V.heap.size 3 1 (.slice (some ⟨V.heap.size, 0, none⟩) 0 0) 0 [] := World.ownsRow_made V #[] 0 (Nat.le_refl _) (by decide) rfl
              have hrowV := owns_only hF.out.1 HVo.out (by simp)
              have hcellV : ∀ W, Below V.heap.size V W → ∀ n m j u, (((f.map (Value.int .i64)).drop n).take m)[j]? = some u → W.cell? ((⟨g, n, none⟩ : Addr).add j) = some u := fun W hW n m j u hu => by
                have hj := (List.getElem?_eq_some_iff.1 hu).1
                rw [List.getElem?_take_of_lt (by simp at hj; omega), List.getElem?_drop] at hu
                have := (owns_below hrowV hW).cells (g := g) rfl _ u hu
                simpa only [Addr.add_lit, Nat.zero_add] using this
              have hyV : ∀ W, Below V.heap.size V W → W.cell? ⟨b, o + i, none⟩ = some (.int .i64 q) := fun W hW => (hW.cell (p := ⟨b, o + i, none⟩) (Nat.lt_of_lt_of_le hbl.out hzV)).trans ((HVo.out.cell (p := ⟨b, o + i, none⟩) hbl.out (by simp)).trans d0)
              have hb0 : Below V.heap.size V (V.alloc (.cells #[] 3)) := (Below.refl _ _).alloc (Nat.le_refl _) _
              have Hb0 := hide hb0
              have Hown0 := hide hown0
              have Hnews1 := hide (hcellV _ hb0 0 k)
              have HcellV := hide hcellV
              have HyV := hide hyV
              have hl1 : Hid ((((f.map (Value.int .i64)).drop 0).take k).length = k * 1) := hide (by have := Hfl.out; simp; omega)
              have ho1 : Hid (∀ n m, ∀ u ∈ ((f.map (Value.int .i64)).drop n).take m, u.oneCell' = true) := hide (fun n m u hu => by have := List.mem_of_mem_drop (List.mem_of_mem_take hu); obtain ⟨z, _, rfl⟩ := List.mem_map.1 this; rfl)
              have hl3 : Hid ((((f.map (Value.int .i64)).drop k).take (i - k)).length = (i - k) * 1) := hide (by have := Hfl.out; simp; try omega)
              clear hVo hown0 hrowV hcellV hyV hb0
              go_wp2_with (first
                | (at_builtin; refine wpList_append_own _ rfl (.tmp 32) (.tmp 35) _ rfl V.heap.size 3 i0 (.int .i64 0) 1 8 Try.underlying25 Hi.out Hz0.out Hz1.out Hz2.out rfl (by decide) (.slice (some ⟨V.heap.size, 0, none⟩) 0 0) 0 [] rfl Hown0.out ⟨g, 0, none⟩ k fc (((f.map (.int .i64)).drop 0).take k) rfl hl1.out Hnews1.out (ho1.out _ _) (by unfold maxLen; omega) (by omega) (by simp) ?_; intro v1 w1 hown1 hgrow1 _; simp only [Nat.zero_add, List.nil_append] at hown1; obtain ⟨n1a, n1c, rfl⟩ := row_form hown1; have Hb1 := hide (Hb0.out.grown hgrow1 (by simp) (fun k e => by cases e; exact Nat.le_refl _)); have y1 := HyV.out w1 Hb1.out; have hz1 : V.heap.size ≤ w1.heap.size := Hb1.out.size; have Hown1 := hide (hown1.alloc (Obj.cells #[.int .i64 q] 3)); have Hn2 := hide (World.news_of_block (cs := #[.int .i64 q]) (t := 3) (fr := (0, 0)) (heap_alloc_new w1 (Obj.cells #[.int .i64 q] 3))); clear hown1 hgrow1)
                | (at_builtin; refine wpList_append_own _ rfl (.tmp 37) (.tmp 42) _ rfl V.heap.size 3 i0 (.int .i64 0) 1 8 Try.underlying25 Hi.out Hz0.out Hz1.out Hz2.out rfl (by decide) (.slice n1a k n1c) k (((f.map (.int .i64)).drop 0).take k) rfl Hown1.out ⟨w1.heap.size, 0, none⟩ 1 1 [.int .i64 q] rfl rfl Hn2.out (by simp [Value.oneCell']) (by unfold maxLen; omega) (by omega) (by simp; omega) ?_; intro v2 w2 hown2 hgrow2 _; obtain ⟨n2a, n2c, rfl⟩ := row_form hown2; have Hb2 := hide ((Hb1.out.alloc hz1 _).grown hgrow2 (by simp; omega) (fun k e => row_own Hown1.out k e)); have hz2' : V.heap.size ≤ w2.heap.size := Hb2.out.size; have Hown2 := hide hown2; have Hn3 := hide (HcellV.out w2 Hb2.out k (i - k)); clear hown2 hgrow2 y1)
                | (at_builtin; refine wpList_append_own _ rfl (.tmp 44) (.tmp 47) _ rfl V.heap.size 3 i0 (.int .i64 0) 1 8 Try.underlying25 Hi.out Hz0.out Hz1.out Hz2.out rfl (by decide) (.slice n2a (k + 1) n2c) (k + 1) (((f.map (.int .i64)).drop 0).take k ++ [.int .i64 q]) rfl Hown2.out ⟨g, k, none⟩ (i - k) (fc - k) (((f.map (.int .i64)).drop k).take (i - k)) rfl hl3.out Hn3.out (ho1.out _ _) (by unfold maxLen; omega) (by omega) (by omega) ?_; intro v3 w3 hown3 hgrow3 _; obtain ⟨n3a, n3c, rfl⟩ := row_form hown3; have Hb3 := hide (Hb2.out.grown hgrow3 hz2' (fun k e => row_own Hown2.out k e)); have Hown3 := hide hown3; clear hown3 hgrow3))
              have hlist : ((f.map (Value.int .i64)).drop 0).take k ++ [.int .i64 q] ++ ((f.map (Value.int .i64)).drop k).take (i - k) = (f.take k ++ [q] ++ f.drop k).map (.int .i64) := by
                have := Hfl.out
                simp only [List.drop_zero, List.map_append, List.map_take, List.map_drop, List.map_cons, List.map_nil]
                congr 1
                rw [List.take_of_length_le (by simp; omega)]
              have hnew : Hid (FIs w.heap.size w3 (.slice n3a (i + 1) n3c) (f.take k ++ [q] ++ f.drop k) l (i + 1)) := by
                have hrow := Hown3.out
                rw [hlist, show k + 1 + (i - k) = i + 1 by omega] at hrow
                have hfl := Hfl.out
                refine ⟨owns_base hrow (by have := hb.out.size; omega), by simp; omega, ins_perm f l q k i hlt Hq.out hF.out.2.2.1, ins_falls f q k (by omega) hF.out.2.2.2 (fun j h hj => hle.out j h hj) (fun h => by rw [Hfk.out]; omega)⟩
              have hbw : Hid (Below w.heap.size w w3) := by
                have q1 : Below w.heap.size w V := below_only hb.out HVo.out (by simp) hb.out.size
                exact q1.trans (Hb3.out.mono q1.size)
              rw [show k + 1 + (i - k) = i + 1 by omega]
              go_wp2
              go_roundw
              case rel => exact ⟨i + 1, _, _, _, by omega, by go_num, rfl, hnew.out, hbw.out⟩
              case measure => simp [intOf]; omega
          · obtain rfl : i = k := by omega
            have i3 : decide ((i : Int) < (i : Int)) = false := decide_eq_false (by omega)
            by_cases hfc : fc = i
            · subst hfc
              go_wp2_with fail
              go_quiet (fail)
              go_upto_region 8 with fail
              obtain ⟨V, hV⟩ : ∃ V, wr.drewN nq = V := ⟨_, rfl⟩
              have hVo : Only [] wo V := by rw [← hV]; exact hoo.out.drewN _
              rw [hV]
              clear hV
              have HVo := hide hVo
              have hzV : wo.heap.size ≤ V.heap.size := hVo.size
              have hown0 : (V.alloc (.cells #[] 3)).ownsRow V.heap.size 3 1 (.slice (some ⟨V.heap.size, 0, none⟩) 0 0) 0 [] := World.ownsRow_made V #[] 0 (Nat.le_refl _) (by decide) rfl
              have hrowV := owns_only hF.out.1 HVo.out (by simp)
              have hcellV : ∀ W, Below V.heap.size V W → ∀ n m j u, (((f.map (Value.int .i64)).drop n).take m)[j]? = some u → W.cell? ((⟨g, n, none⟩ : Addr).add j) = some u := fun W hW n m j u hu => by
                have hj := (List.getElem?_eq_some_iff.1 hu).1
                rw [List.getElem?_take_of_lt (by simp at hj; omega), List.getElem?_drop] at hu
                have := (owns_below hrowV hW).cells (g := g) rfl _ u hu
                simpa only [Addr.add_lit, Nat.zero_add] using this
              have hyV : ∀ W, Below V.heap.size V W → W.cell? ⟨b, o + fc, none⟩ = some (.int .i64 q) := fun W hW => (hW.cell (p := ⟨b, o + fc, none⟩) (Nat.lt_of_lt_of_le hbl.out hzV)).trans ((HVo.out.cell (p := ⟨b, o + fc, none⟩) hbl.out (by simp)).trans d0)
              have hb0 : Below V.heap.size V (V.alloc (.cells #[] 3)) := (Below.refl _ _).alloc (Nat.le_refl _) _
              have Hb0 := hide hb0
              have Hown0 := hide hown0
              have Hnews1 := hide (hcellV _ hb0 0 fc)
              have HcellV := hide hcellV
              have HyV := hide hyV
              have hl1 : Hid ((((f.map (Value.int .i64)).drop 0).take fc).length = fc * 1) := hide (by have := Hfl.out; simp; omega)
              have ho1 : Hid (∀ n m, ∀ u ∈ ((f.map (Value.int .i64)).drop n).take m, u.oneCell' = true) := hide (fun n m u hu => by have := List.mem_of_mem_drop (List.mem_of_mem_take hu); obtain ⟨z, _, rfl⟩ := List.mem_map.1 this; rfl)
              have hl3 : Hid ((((f.map (Value.int .i64)).drop 0).take 0).length = 0 * 1) := hide (by have := Hfl.out; simp; try omega)
              clear hVo hown0 hrowV hcellV hyV hb0
              go_wp2_with (first
                | (at_builtin; refine wpList_append_own _ rfl (.tmp 32) (.tmp 35) _ rfl V.heap.size 3 i0 (.int .i64 0) 1 8 Try.underlying25 Hi.out Hz0.out Hz1.out Hz2.out rfl (by decide) (.slice (some ⟨V.heap.size, 0, none⟩) 0 0) 0 [] rfl Hown0.out ⟨g, 0, none⟩ fc fc (((f.map (.int .i64)).drop 0).take fc) rfl hl1.out Hnews1.out (ho1.out _ _) (by unfold maxLen; omega) (by omega) (by simp) ?_; intro v1 w1 hown1 hgrow1 _; simp only [Nat.zero_add, List.nil_append] at hown1; obtain ⟨n1a, n1c, rfl⟩ := row_form hown1; have Hb1 := hide (Hb0.out.grown hgrow1 (by simp) (fun k e => by cases e; exact Nat.le_refl _)); have y1 := HyV.out w1 Hb1.out; have hz1 : V.heap.size ≤ w1.heap.size := Hb1.out.size; have Hown1 := hide (hown1.alloc (Obj.cells #[.int .i64 q] 3)); have Hn2 := hide (World.news_of_block (cs := #[.int .i64 q]) (t := 3) (fr := (0, 0)) (heap_alloc_new w1 (Obj.cells #[.int .i64 q] 3))); clear hown1 hgrow1)
                | (at_builtin; refine wpList_append_own _ rfl (.tmp 37) (.tmp 42) _ rfl V.heap.size 3 i0 (.int .i64 0) 1 8 Try.underlying25 Hi.out Hz0.out Hz1.out Hz2.out rfl (by decide) (.slice n1a fc n1c) fc (((f.map (.int .i64)).drop 0).take fc) rfl Hown1.out ⟨w1.heap.size, 0, none⟩ 1 1 [.int .i64 q] rfl rfl Hn2.out (by simp [Value.oneCell']) (by unfold maxLen; omega) (by omega) (by simp; omega) ?_; intro v2 w2 hown2 hgrow2 _; obtain ⟨n2a, n2c, rfl⟩ := row_form hown2; have Hb2 := hide ((Hb1.out.alloc hz1 _).grown hgrow2 (by simp; omega) (fun k e => row_own Hown1.out k e)); have hz2' : V.heap.size ≤ w2.heap.size := Hb2.out.size; have Hown2 := hide hown2; have Hn3 := hide (HcellV.out w2 Hb2.out 0 0); clear hown2 hgrow2 y1)
                | (at_builtin; refine wpList_append_own _ rfl (.tmp 44) (.tmp 47) _ rfl V.heap.size 3 i0 (.int .i64 0) 1 8 Try.underlying25 Hi.out Hz0.out Hz1.out Hz2.out rfl (by decide) (.slice n2a (fc + 1) n2c) (fc + 1) (((f.map (.int .i64)).drop 0).take fc ++ [.int .i64 q]) rfl Hown2.out ⟨g, 0, none⟩ 0 0 (((f.map (.int .i64)).drop 0).take 0) rfl hl3.out Hn3.out (ho1.out _ _) (by unfold maxLen; omega) (by omega) (by omega) ?_; intro v3 w3 hown3 hgrow3 _; obtain ⟨n3a, n3c, rfl⟩ := row_form hown3; have Hb3 := hide (Hb2.out.grown hgrow3 hz2' (fun k e => row_own Hown2.out k e)); have Hown3 := hide hown3; clear hown3 hgrow3))
              have hlist : ((f.map (Value.int .i64)).drop 0).take fc ++ [.int .i64 q] ++ ((f.map (Value.int .i64)).drop 0).take 0 = (f.take fc ++ [q] ++ f.drop fc).map (.int .i64) := by
                have := Hfl.out
                simp only [List.drop_zero, List.map_append, List.map_take, List.map_drop, List.map_cons, List.map_nil]
                congr 1
                rw [List.drop_eq_nil_of_le (by simp; omega)]; try simp
              have hnew : Hid (FIs w.heap.size w3 (.slice n3a (fc + 1) n3c) (f.take fc ++ [q] ++ f.drop fc) l (fc + 1)) := by
                have hrow := Hown3.out
                rw [hlist, show fc + 1 + 0 = fc + 1 by omega] at hrow
                have hfl := Hfl.out
                refine ⟨owns_base hrow (by have := hb.out.size; omega), by simp; omega, ins_perm f l q fc fc hlt Hq.out hF.out.2.2.1, ins_falls f q fc (by omega) hF.out.2.2.2 (fun j h hj => hle.out j h hj) (fun h => by omega)⟩
              have hbw : Hid (Below w.heap.size w w3) := by
                have q1 : Below w.heap.size w V := below_only hb.out HVo.out (by simp) hb.out.size
                exact q1.trans (Hb3.out.mono q1.size)
              rw [show fc + 1 + 0 = fc + 1 by omega]
              go_wp2
              go_roundw
              case rel => exact ⟨fc + 1, _, _, _, by omega, by go_num, rfl, hnew.out, hbw.out⟩
              case measure => simp [intOf]; omega
            · go_wp2_with fail
              go_quiet (fail)
              go_upto_region 8 with fail
              obtain ⟨V, hV⟩ : ∃ V, wr.drewN nq = V := ⟨_, rfl⟩
              have hVo : Only [] wo V := by rw [← hV]; exact hoo.out.drewN _
              rw [hV]
              clear hV
              have HVo := hide hVo
              have hzV : wo.heap.size ≤ V.heap.size := hVo.size
              have hown0 : (V.alloc (.cells #[] 3)).ownsRow V.heap.size 3 1 (.slice (some ⟨V.heap.size, 0, none⟩) 0 0) 0 [] := World.ownsRow_made V #[] 0 (Nat.le_refl _) (by decide) rfl
              have hrowV := owns_only hF.out.1 HVo.out (by simp)
              have hcellV : ∀ W, Below V.heap.size V W → ∀ n m j u, (((f.map (Value.int .i64)).drop n).take m)[j]? = some u → W.cell? ((⟨g, n, none⟩ : Addr).add j) = some u := fun W hW n m j u hu => by
                have hj := (List.getElem?_eq_some_iff.1 hu).1
                rw [List.getElem?_take_of_lt (by simp at hj; omega), List.getElem?_drop] at hu
                have := (owns_below hrowV hW).cells (g := g) rfl _ u hu
                simpa only [Addr.add_lit, Nat.zero_add] using this
              have hyV : ∀ W, Below V.heap.size V W → W.cell? ⟨b, o + i, none⟩ = some (.int .i64 q) := fun W hW => (hW.cell (p := ⟨b, o + i, none⟩) (Nat.lt_of_lt_of_le hbl.out hzV)).trans ((HVo.out.cell (p := ⟨b, o + i, none⟩) hbl.out (by simp)).trans d0)
              have hb0 : Below V.heap.size V (V.alloc (.cells #[] 3)) := (Below.refl _ _).alloc (Nat.le_refl _) _
              have Hb0 := hide hb0
              have Hown0 := hide hown0
              have Hnews1 := hide (hcellV _ hb0 0 i)
              have HcellV := hide hcellV
              have HyV := hide hyV
              have hl1 : Hid ((((f.map (Value.int .i64)).drop 0).take i).length = i * 1) := hide (by have := Hfl.out; simp; omega)
              have ho1 : Hid (∀ n m, ∀ u ∈ ((f.map (Value.int .i64)).drop n).take m, u.oneCell' = true) := hide (fun n m u hu => by have := List.mem_of_mem_drop (List.mem_of_mem_take hu); obtain ⟨z, _, rfl⟩ := List.mem_map.1 this; rfl)
              have hl3 : Hid ((((f.map (Value.int .i64)).drop i).take 0).length = 0 * 1) := hide (by have := Hfl.out; simp; try omega)
              clear hVo hown0 hrowV hcellV hyV hb0
              go_wp2_with (first
                | (at_builtin; refine wpList_append_own _ rfl (.tmp 32) (.tmp 35) _ rfl V.heap.size 3 i0 (.int .i64 0) 1 8 Try.underlying25 Hi.out Hz0.out Hz1.out Hz2.out rfl (by decide) (.slice (some ⟨V.heap.size, 0, none⟩) 0 0) 0 [] rfl Hown0.out ⟨g, 0, none⟩ i fc (((f.map (.int .i64)).drop 0).take i) rfl hl1.out Hnews1.out (ho1.out _ _) (by unfold maxLen; omega) (by omega) (by simp) ?_; intro v1 w1 hown1 hgrow1 _; simp only [Nat.zero_add, List.nil_append] at hown1; obtain ⟨n1a, n1c, rfl⟩ := row_form hown1; have Hb1 := hide (Hb0.out.grown hgrow1 (by simp) (fun k e => by cases e; exact Nat.le_refl _)); have y1 := HyV.out w1 Hb1.out; have hz1 : V.heap.size ≤ w1.heap.size := Hb1.out.size; have Hown1 := hide (hown1.alloc (Obj.cells #[.int .i64 q] 3)); have Hn2 := hide (World.news_of_block (cs := #[.int .i64 q]) (t := 3) (fr := (0, 0)) (heap_alloc_new w1 (Obj.cells #[.int .i64 q] 3))); clear hown1 hgrow1)
                | (at_builtin; refine wpList_append_own _ rfl (.tmp 37) (.tmp 42) _ rfl V.heap.size 3 i0 (.int .i64 0) 1 8 Try.underlying25 Hi.out Hz0.out Hz1.out Hz2.out rfl (by decide) (.slice n1a i n1c) i (((f.map (.int .i64)).drop 0).take i) rfl Hown1.out ⟨w1.heap.size, 0, none⟩ 1 1 [.int .i64 q] rfl rfl Hn2.out (by simp [Value.oneCell']) (by unfold maxLen; omega) (by omega) (by simp; omega) ?_; intro v2 w2 hown2 hgrow2 _; obtain ⟨n2a, n2c, rfl⟩ := row_form hown2; have Hb2 := hide ((Hb1.out.alloc hz1 _).grown hgrow2 (by simp; omega) (fun k e => row_own Hown1.out k e)); have hz2' : V.heap.size ≤ w2.heap.size := Hb2.out.size; have Hown2 := hide hown2; have Hn3 := hide (HcellV.out w2 Hb2.out i 0); clear hown2 hgrow2 y1)
                | (at_builtin; refine wpList_append_own _ rfl (.tmp 44) (.tmp 47) _ rfl V.heap.size 3 i0 (.int .i64 0) 1 8 Try.underlying25 Hi.out Hz0.out Hz1.out Hz2.out rfl (by decide) (.slice n2a (i + 1) n2c) (i + 1) (((f.map (.int .i64)).drop 0).take i ++ [.int .i64 q]) rfl Hown2.out ⟨g, i, none⟩ 0 (fc - i) (((f.map (.int .i64)).drop i).take 0) rfl hl3.out Hn3.out (ho1.out _ _) (by unfold maxLen; omega) (by omega) (by omega) ?_; intro v3 w3 hown3 hgrow3 _; obtain ⟨n3a, n3c, rfl⟩ := row_form hown3; have Hb3 := hide (Hb2.out.grown hgrow3 hz2' (fun k e => row_own Hown2.out k e)); have Hown3 := hide hown3; clear hown3 hgrow3))
              have hlist : ((f.map (Value.int .i64)).drop 0).take i ++ [.int .i64 q] ++ ((f.map (Value.int .i64)).drop i).take 0 = (f.take i ++ [q] ++ f.drop i).map (.int .i64) := by
                have := Hfl.out
                simp only [List.drop_zero, List.map_append, List.map_take, List.map_drop, List.map_cons, List.map_nil]
                congr 1
                rw [List.drop_eq_nil_of_le (by simp; omega)]; try simp
              have hnew : Hid (FIs w.heap.size w3 (.slice n3a (i + 1) n3c) (f.take i ++ [q] ++ f.drop i) l (i + 1)) := by
                have hrow := Hown3.out
                rw [hlist, show i + 1 + 0 = i + 1 by omega] at hrow
                have hfl := Hfl.out
                refine ⟨owns_base hrow (by have := hb.out.size; omega), by simp; omega, ins_perm f l q i i hlt Hq.out hF.out.2.2.1, ins_falls f q i (by omega) hF.out.2.2.2 (fun j h hj => hle.out j h hj) (fun h => by omega)⟩
              have hbw : Hid (Below w.heap.size w w3) := by
                have q1 : Below w.heap.size w V := below_only hb.out HVo.out (by simp) hb.out.size
                exact q1.trans (Hb3.out.mono q1.size)
              rw [show i + 1 + 0 = i + 1 by omega]
              go_wp2
              go_roundw
              case rel => exact ⟨i + 1, _, _, _, by omega, by go_num, rfl, hnew.out, hbw.out⟩
              case measure => simp [intOf]; omega
    · obtain rfl : i = l.length := by omega
      have hfe : f = falls l := falls_unique (by have := hF.out.2.2.1; rwa [List.take_length] at this) hF.out.2.2.2
      have hrow := hF.out.1
      rw [hfe] at hrow
      have hfl : (falls l).length = l.length := falls_length l
      have hnis := hide (NIs.of_row (l := falls l) (by omega) (by rw [hfl]; exact hrow))
      have Hb := hide hb.out
      have hcp : l.length ≤ fc := by
        rcases hF.out.1.2 with ⟨_, h0⟩ | ⟨g, cap, cur, e, _, _, hc, _⟩
        · omega
        · cases e
          exact hc
      clear hF hb hrow hfe
      by_cases hs : s = 3
      · have hsb : (s == 3) = true := by simpa using hs
        have Hs := hide hs
        clear hs hfl
        go_wp2
        go_ret
        exact ⟨_, rfl, by rw [vec, if_pos Hs.out]; exact hnis.out, Hb.out⟩
      · have hsb : (s == 3) = false := by simpa using hs
        have Hs := hide hs
        clear hs
        cases hf : falls l with
        | nil =>
          have hl0 : l.length = 0 := by rw [← hfl, hf]; rfl
          have hlb : ((l.length : Int) == 0) = true := by rw [hl0]; rfl
          have Hv := hide (show vec s l = [0] by unfold vec; rw [if_neg Hs.out, hf])
          have hnew := hide (MapKept.heap_alloc wo (Obj.cells #[.int .i64 0] 3)).1
          clear hf hfl hl0 hnis
          go_wp2
          go_ret
          refine ⟨_, rfl, ?_, Hb.out.alloc Hb.out.size _⟩
          rw [Hv.out]
          exact ⟨by simp, .inl ⟨wo.heap.size, 0, 1, rfl, fun i hi => by
            have : i = 0 := by simpa using hi
            subst this
            exact cell1 hnew.out⟩⟩
        | cons y r =>
          have hl0 : 0 < l.length := by rw [← hfl, hf]; simp
          have hlb : ((l.length : Int) == 0) = false := by rw [beq_eq_false_iff_ne]; omega
          have Hv := hide (show vec s l = [y] by unfold vec; rw [if_neg Hs.out, hf])
          have hn := hnis.out
          rw [hf] at hn
          obtain ⟨g, o, cp, e, c0⟩ := hn.at (k := 0) (by simp)
          injection e with e1 e2 e3
          subst e1
          have C0 := hide c0
          have hfc : 1 ≤ fc := by omega
          clear hf hfl hn hnis c0 e2 e3
          go_wp2
          go_ret
          refine ⟨_, rfl, ?_, Hb.out⟩
          rw [Hv.out]
          exact ⟨by simp, .inl ⟨g, o, fc, rfl, fun i hi => by
            have : i = 0 := by simpa using hi
            subst this
            exact C0.out⟩⟩
end Go.Proofs.Ytelgajgghgknnaa
