/- The contract of witanref26.Sort. -/
import Derived.Test.YtelgajgghgknnaaRAhead
import Derived.Test.YtelgajgghgknnaaActs
namespace Go.Proofs.Ytelgajgghgknnaa
open Go Go.RowKit Go.MapKept Go.Sort

theorem insA_perm (f l : List Ac) (x : Ac) (k i : Nat) (hi : i < l.length) (hx : l[i] = x) (hp : f.Perm (l.take i)) : (f.take k ++ [x] ++ f.drop k).Perm (l.take (i + 1)) := by
  rw [List.take_succ_eq_append_getElem hi, hx]
  have h1 : (f.take k ++ [x] ++ f.drop k).Perm (f.take k ++ f.drop k ++ [x]) := by
    rw [List.append_assoc, List.append_assoc]
    exact List.Perm.append_left _ List.perm_append_comm
  rw [List.take_append_drop] at h1
  exact h1.trans (hp.append_right _)

theorem insA_sorted (s : Int) (f : List Ac) (x : Ac) (k : Nat) (hk : k ≤ f.length) (hf : f.Pairwise (fun x y => cmpA s x y ≤ 0)) (h1 : ∀ j (h : j < f.length), k ≤ j → cmpA s x f[j] < 0) (h2 : ∀ p (h : p < f.length), k = p + 1 → 0 ≤ cmpA s x f[p]) :
    (f.take k ++ [x] ++ f.drop k).Pairwise (fun x y => cmpA s x y ≤ 0) := by
  have hc := cmp_act s
  have hd : ∀ y ∈ f.drop k, cmpA s x y ≤ 0 := fun y hy => by
    obtain ⟨j, hj, rfl⟩ := List.getElem_of_mem hy
    rw [List.getElem_drop]
    have hj' : j < f.length - k := by simpa using hj
    have := h1 (k + j) (by omega) (by omega)
    omega
  have ht : ∀ y ∈ f.take k, cmpA s y x ≤ 0 := fun y hy => by
    obtain ⟨j, hj, rfl⟩ := List.getElem_of_mem hy
    rw [List.getElem_take]
    have hj' : j < min k f.length := by simpa using hj
    obtain ⟨p, rfl⟩ : ∃ p, k = p + 1 := ⟨k - 1, by omega⟩
    have h3 := h2 p (by omega) rfl
    have h4 := hc.anti x f[p]
    rcases (by omega : j = p ∨ j < p) with rfl | q
    · omega
    · have h5 := List.pairwise_iff_getElem.1 hf j p (by omega) (by omega) q
      exact hc.trans _ _ _ h5 (by omega)
  rw [List.append_assoc, List.pairwise_append]
  refine ⟨hf.sublist (List.take_sublist _ _), ?_, fun y hy z hz => ?_⟩
  · rw [List.singleton_append, List.pairwise_cons]
    exact ⟨hd, hf.sublist (List.drop_sublist _ _)⟩
  · rcases List.mem_append.1 hz with q | q
    · simp only [List.mem_singleton] at q
      subst q
      exact ht y hy
    · exact hc.trans _ _ _ (ht y hy) (hd z q)

theorem aflat_take (l : List Ac) (k : Nat) : (aflat l).take (k * 3) = aflat (l.take k) := by
  induction l generalizing k with
  | nil => simp [aflat]
  | cons a l ih =>
    cases k with
    | zero => simp [aflat]
    | succ k => rw [show (k + 1) * 3 = k * 3 + 3 by omega]; simp [aflat, ih]
theorem aflat_drop (l : List Ac) (k : Nat) : (aflat l).drop (k * 3) = aflat (l.drop k) := by
  induction l generalizing k with
  | nil => simp [aflat]
  | cons a l ih =>
    cases k with
    | zero => simp [aflat]
    | succ k => rw [show (k + 1) * 3 = k * 3 + 3 by omega]; simp [aflat, ih]
theorem aflat_one (l : List Ac) (h : ∀ a ∈ l, ∃ b n c, a.x = .slice b n c) : ∀ u ∈ aflat l, u.oneCell' = true := by
  induction l with
  | nil => simp [aflat]
  | cons a l ih =>
    intro u hu
    obtain ⟨b, n, c, hx⟩ := h a (.head _)
    simp only [aflat, List.mem_cons] at hu
    rcases hu with rfl | rfl | rfl | hu
    · rfl
    · rw [hx]; rfl
    · rfl
    · exact ih (fun a ha => h a (.tail _ ha)) u hu

theorem lt_of {s : Int} {x : Ac} {f : List Ac} {p p2 : Nat} {hp1 : p < f.length} {h : p2 < f.length} (hp : p + 1 = p2 + 1) (hr : decide (cmpA s x f[p] < 0) = false) : 0 ≤ cmpA s x f[p2] := by
  obtain rfl : p = p2 := by omega
  have := of_decide_eq_false hr
  omega

/-- The state of the loop. -/
def GIs (s : Int) (B : Nat) (w : World) (v : Value) (f l : List Ac) (i : Nat) : Prop := w.ownsRow B 27 3 v i (aflat f) ∧ f.length = i ∧ f.Perm (l.take i) ∧ f.Pairwise (fun x y => cmpA s x y ≤ 0) ∧ (i = 0 → v = .slice none 0 0)

set_option maxRecDepth 100000 in
set_option maxHeartbeats 4000000 in
theorem rsort_perm (s : Int) (v : Value) (l : List Ac) (w : World) (h : ActsIs w v l) :
    Calls Try.prog 41 #[.int .u8 s, v] w fun e w' => ∃ v' l', e = .returned v' ∧ ActsIs w' v' l' ∧ l'.map Ac.co = sortC s (l.map Ac.co) ∧ Below w.heap.size w w' ∧ l'.Perm l ∧ w'.ownsRow w.heap.size 27 3 v' l'.length (aflat l') := by
  obtain ⟨xa, xc, rfl⟩ := h.form
  have hlx := h.len
  obtain ⟨i0, hi, hz0, hz1, hz2⟩ := ainfo_parts
  have Hi := hide hi
  have Hz0 := hide hz0
  have Hz1 := hide hz1
  have Hz2 := hide hz2
  have HL := hide h
  clear h hi hz0 hz1 hz2
  go_enter Try.func41, Try.ntmps41
  go_wp2
  go_loopw [5, 6] (fun vo vi wr => ∃ (i : Nat) (fa : Option Addr) (fc : Nat) (f : List Ac), i ≤ l.length ∧ vi = .int .i64 i ∧ vo = .slice fa i fc ∧ Hid (GIs s w.heap.size wr (.slice fa i fc) f l i) ∧ Hid (Below w.heap.size w wr)) (fun _ i _ => l.length - (intOf i).toNat)
  case atStart => exact ⟨0, none, 0, [], Nat.zero_le _, rfl, rfl, ⟨World.ownsRow_nil _ _ _ _, rfl, by simp, by simp, fun _ => rfl⟩, Below.refl _ _⟩
  case round =>
    obtain ⟨i, fa, fc, f, hil, rfl, rfl, hF, hb⟩ := hrel
    obtain ⟨wo, rfl⟩ : ∃ wo : World, wo = wr := ⟨_, rfl⟩
    by_cases hlt : i < l.length
    · have hLo := HL.out.below hb.out
      obtain ⟨b, o, cp, pa, pc, e, hx, d0, d1, d2⟩ := hLo.at hlt
      injection e with e1 e2 e3
      subst e1 e3
      clear e2
      have hnq := hLo.tups _ (List.getElem_mem hlt)
      obtain ⟨q, hq⟩ : ∃ q, l[i] = q := ⟨_, rfl⟩
      rw [hq] at d0 d1 d2 hx hnq
      have Hq := hide hq
      have hbl := hide (lt_of_cell d0)
      have Hnq := hide hnq
      have hfx : Hid (∀ a ∈ f, NIs wo a.x a.tup) := hide (fun a ha => hLo.tups a (List.mem_of_mem_take (hF.out.2.2.1.subset ha)))
      obtain ⟨rq, tq, sq, xq⟩ := q
      simp only at d0 d1 d2 hx
      subst hx
      clear hq hLo hnq
      rcases hF.out.1.2 with ⟨e, h0⟩ | ⟨g, cap, cur, e, hbg, hg, hcp, _⟩
      · injection e with e1 e2 e3
        subst e1 e3
        clear e2
        subst h0
        have hf0 : f = [] := List.eq_nil_of_length_eq_zero hF.out.2.1
        have Hf0 := hide hf0
        clear hf0
        simp only [Nat.zero_mul, Nat.add_zero] at d0 d1 d2 hbl
        have i2 : (0 : Int) < (l.length : Int) := by omega
        go_wp2_with fail
        go_loopw [7] (fun vk wr2 => vk = .int .i64 0 ∧ Hid (Below wo.heap.size wo wr2)) (fun _ _ => 0)
        case atStart => exact ⟨rfl, Below.refl _ _⟩
        case round =>
          obtain ⟨rfl, hoo⟩ := hrel
          go_wp2_with fail
          go_quiet (fail)
          go_upto_region 8 with fail
          obtain ⟨V, hV⟩ : ∃ V, wr.drewN nq = V := ⟨_, rfl⟩
          have hVo : Below wo.heap.size wo V := by rw [← hV]; exact below_drewN hoo.out _
          rw [hV]
          clear hV
          have HVo := hide hVo
          have hzV : wo.heap.size ≤ V.heap.size := hVo.size
          have Hown0 := hide (World.ownsRow_made (e := 27) (size := 3) V #[] 0 (Nat.le_refl V.heap.size) (by decide) rfl)
          have hb0 : Below V.heap.size V (V.alloc (.cells #[] 27)) := (Below.refl _ _).alloc (Nat.le_refl _) _
          have Hb0 := hide hb0
          have hbb := HVo.out.trans (hb0.mono hzV)
          have y0 := (hbb.cell (p := ⟨b, o, none⟩) hbl.out).trans d0
          have y1 := (hbb.cell (p := ⟨b, o + 1, none⟩) hbl.out).trans d1
          have y2 := (hbb.cell (p := ⟨b, o + 2, none⟩) hbl.out).trans d2
          have Hown1 := hide (Hown0.out.alloc (Obj.cells #[.int .i64 rq, .slice pa tq.length pc, .int .i64 sq] 27))
          have Hn2 := hide (World.news_of_block (cs := #[.int .i64 rq, .slice pa tq.length pc, .int .i64 sq]) (t := 27) (fr := (0, 0)) (heap_alloc_new (V.alloc (.cells #[] 27)) (Obj.cells #[.int .i64 rq, .slice pa tq.length pc, .int .i64 sq] 27)))
          clear hVo hb0 hbb
          go_upto_region 10 with (at_builtin; refine wpList_append_own _ rfl (.tmp 39) (.tmp 44) _ rfl V.heap.size 27 i0 (.agg #[.int .i64 0, .slice none 0 0, .int .i64 0]) 3 40 Try.underlying22 Hi.out Hz0.out Hz1.out Hz2.out rfl (by decide) (.slice (some ⟨V.heap.size, 0, none⟩) 0 0) 0 [] rfl Hown1.out ⟨V.heap.size + 1, 0, none⟩ 1 1 [.int .i64 rq, .slice pa tq.length pc, .int .i64 sq] rfl rfl (by simpa using Hn2.out) (by simp [Value.oneCell']) (by decide) (by omega) (by simp; omega) ?_; intro v2 w2 hown2 hgrow2 _; simp only [Nat.zero_add, List.nil_append] at hown2; obtain ⟨n2a, n2c, rfl⟩ := row_form hown2; have Hb2 := hide ((Hb0.out.alloc (by simp) _).grown hgrow2 (by simp; omega) (fun k e => row_own Hown1.out k e)); have Hown2 := hide hown2; clear hown2 hgrow2 y0 y1 y2)
          go_wp2_with (at_builtin; refine wpList_append_own_none rfl (.tmp 46) (.tmp 49) _ rfl V.heap.size 27 i0 3 Try.underlying22 Hi.out (.slice n2a 1 n2c) 1 [.int .i64 rq, .slice pa tq.length pc, .int .i64 sq] rfl Hown2.out rfl ?_)
          have hnew : Hid (GIs s w.heap.size w2 (.slice n2a 1 n2c) [(⟨rq, tq, sq, .slice pa tq.length pc⟩ : Ac)] l 1) := by
            have hp := insA_perm f l _ 0 0 hlt Hq.out hF.out.2.2.1
            rw [Hf0.out] at hp
            exact ⟨owns_base Hown2.out (by have := hb.out.size; omega), rfl, by simpa using hp, by simp, fun h => by omega⟩
          have hbw : Hid (Below w.heap.size w w2) := by
            have q1 : Below w.heap.size w V := hb.out.trans (HVo.out.mono hb.out.size)
            exact q1.trans (Hb2.out.mono q1.size)
          go_wp2
          go_roundw
          case rel => exact ⟨1, _, _, _, by omega, by go_num, rfl, hnew.out, hbw.out⟩
          case measure => simp [intOf]; omega
      · injection e with e1 e2 e3
        subst e1 e3
        clear e2
        have hrow := hF.out.1
        have hcell : ∀ j (h : j < f.length), ∃ (fa : Option Addr) (fn : Int) (fs : Int) (fd : Nat), f[j].rule = fn ∧ f[j].sal = fs ∧ f[j].x = .slice fa f[j].tup.length fd ∧ wo.cell? ⟨g, j * 3, none⟩ = some (.int .i64 fn) ∧ wo.cell? ⟨g, j * 3 + 1, none⟩ = some (.slice fa f[j].tup.length fd) ∧ wo.cell? ⟨g, j * 3 + 2, none⟩ = some (.int .i64 fs) := fun j h => by
          obtain ⟨h0, h1, h2⟩ := aflat_get f j h
          have c := hrow.cells (g := g) rfl
          have c0 := c _ _ h0
          have c1 := c _ _ h1
          have c2 := c _ _ h2
          simp only [Addr.add_lit, Nat.zero_add] at c0 c1 c2
          obtain ⟨aa, cc, e⟩ := (hfx.out _ (List.getElem_mem h)).form
          exact ⟨aa, _, _, cc, rfl, rfl, e, c0, by rw [← e]; exact c1, c2⟩
        have Hfl := hide hF.out.2.1
        have Hcell := hide hcell
        have hgl := hide (lt_of_heap hg)
        have hcp' : i ≤ fc := hcp
        have hi0 : 0 < i := by
          rcases Nat.eq_zero_or_pos i with q' | q'
          · have := hF.out.2.2.2.2 q'
            cases this
          · exact q'
        clear hcell hg hcp hbg hrow
        go_wp2_with fail
        go_loopw [7] (fun vk wr2 => ∃ k : Nat, k ≤ i ∧ vk = .int .i64 k ∧ Hid (∀ j (h : j < f.length), k ≤ j → cmpA s ⟨rq, tq, sq, .slice pa tq.length pc⟩ f[j] < 0) ∧ Hid (Below wo.heap.size wo wr2)) (fun k _ => (intOf k).toNat)
        case atStart => exact ⟨i, Nat.le_refl _, rfl, fun j h h2 => by have := Hfl.out; omega, Below.refl _ _⟩
        case round =>
          obtain ⟨k, hki, rfl, hle, hoo⟩ := hrel
          by_cases hk : 0 < k
          · obtain ⟨p, rfl⟩ : ∃ p, k = p + 1 := ⟨k - 1, by omega⟩
            have hpf : p < f.length := by have := Hfl.out; omega
            obtain ⟨ga, gn, gs, gd, ea, eb, ex, x0, x1, x2⟩ := Hcell.out p hpf
            have hgo := hoo.out
            have u0 := (hgo.cell (p := ⟨g, p * 3, none⟩) hgl.out).trans x0
            have u1 := (hgo.cell (p := ⟨g, p * 3 + 1, none⟩) hgl.out).trans x1
            have u2 := (hgo.cell (p := ⟨g, p * 3 + 2, none⟩) hgl.out).trans x2
            have v0 := (hgo.cell (p := ⟨b, o + i * 3, none⟩) hbl.out).trans d0
            have v1' := (hgo.cell (p := ⟨b, o + i * 3 + 1, none⟩) hbl.out).trans d1
            have v2' := (hgo.cell (p := ⟨b, o + i * 3 + 2, none⟩) hbl.out).trans d2
            have hah := rahead_any s ⟨rq, tq, sq, .slice pa tq.length pc⟩ f[p] wr.drew ((Hnq.out.below hgo).drew) (((hfx.out _ (List.getElem_mem hpf)).below hgo).drew)
            obtain ⟨res, hres⟩ : ∃ r, decide (cmpA s ⟨rq, tq, sq, .slice pa tq.length pc⟩ f[p] < 0) = r := ⟨_, rfl⟩
            rw [hres] at hah
            simp only [Ac.val, ea, eb, ex] at hah
            have Hah := hide hah
            have Hres := hide hres
            have hkeep : ∀ V, Below wr.drew.heap.size wr.drew V → Below wr.heap.size wr V ∧ (V.cell? ⟨g, p * 3, none⟩ = some (.int .i64 gn) ∧ V.cell? ⟨g, p * 3 + 1, none⟩ = some (.slice ga f[p].tup.length gd) ∧ V.cell? ⟨g, p * 3 + 2, none⟩ = some (.int .i64 gs)) ∧
                (V.cell? ⟨b, o + i * 3, none⟩ = some (.int .i64 rq) ∧ V.cell? ⟨b, o + i * 3 + 1, none⟩ = some (.slice pa tq.length pc) ∧ V.cell? ⟨b, o + i * 3 + 2, none⟩ = some (.int .i64 sq)) := fun V hv =>
              ⟨below_undrew hv, ⟨((below_undrew hv).cell (p := ⟨g, p * 3, none⟩) (lt_of_cell u0)).trans u0, ((below_undrew hv).cell (p := ⟨g, p * 3 + 1, none⟩) (lt_of_cell u1)).trans u1, ((below_undrew hv).cell (p := ⟨g, p * 3 + 2, none⟩) (lt_of_cell u2)).trans u2⟩,
                ((below_undrew hv).cell (p := ⟨b, o + i * 3, none⟩) (lt_of_cell v0)).trans v0, ((below_undrew hv).cell (p := ⟨b, o + i * 3 + 1, none⟩) (lt_of_cell v1')).trans v1', ((below_undrew hv).cell (p := ⟨b, o + i * 3 + 2, none⟩) (lt_of_cell v2')).trans v2'⟩
            have Hkeep := hide hkeep
            obtain ⟨ft, hft⟩ : ∃ n, f[p].tup.length = n := ⟨_, rfl⟩
            rw [hft] at u1 Hah Hkeep
            clear hah hres hkeep ea eb ex x0 x1 x2 hgo hft
            have i1 : IntKind.i64.wrap (p : Int) = (p : Int) := IntWalk.i64_in _ (by omega)
            have i2 : (0 : Int) ≤ (p : Int) := by omega
            have i3 : (p : Int) < (i : Int) := by omega
            have i4 : (0 : Int) ≤ (i : Int) := by omega
            have i5 : (i : Int) < (l.length : Int) := by omega
            have i6 : decide ((0 : Int) < (p : Int) + 1) = true := decide_eq_true (by omega)
            go_wp2_with fail
            go_region_held3 (fun V => V.cell? ⟨g, p * 3, none⟩ = some (.int .i64 gn) ∧ V.cell? ⟨g, p * 3 + 1, none⟩ = some (.slice ga ft gd) ∧ V.cell? ⟨g, p * 3 + 2, none⟩ = some (.int .i64 gs) ∧ V.cell? ⟨b, o + i * 3, none⟩ = some (.int .i64 rq) ∧ V.cell? ⟨b, o + i * 3 + 1, none⟩ = some (.slice pa tq.length pc) ∧ V.cell? ⟨b, o + i * 3 + 2, none⟩ = some (.int .i64 sq)) (go_keep)
              ((go_at_call 20; have hqq := Hah.out; with_reducible refine Calls.mono hqq ?_; clear hqq; rintro e V0 ⟨rfl, hbV⟩; obtain ⟨z6, ⟨z0, z1, z2⟩, z3, z4, z5⟩ := Hkeep.out V0 hbV; have HbV := hide z6; clear hbV z6))
            have hoo2 := hide (hoo.out.trans (HbV.out.mono hoo.out.size))
            clear z0 z1 z2 z3 z4 z5 u0 u1 u2 v0 v1' v2' Hkeep Hah i1 i2 i3 i4 i5 i6
            cases res with
            | true =>
              go_wp2
              go_roundw
              case rel => exact ⟨p, by omega, by first | rfl | go_num, fun j h hj => by
                rcases (by omega : j = p ∨ p + 1 ≤ j) with rfl | q'
                · exact of_decide_eq_true Hres.out
                · exact hle.out j h q', hoo2.out⟩
              case measure => simp [intOf]; try omega
            | false =>
              by_cases hfc : fc = p + 1
              · subst hfc
                obtain rfl : i = p + 1 := by omega
                go_upto_region 8 with fail
                obtain ⟨V, hV⟩ : ∃ V, V0 = V := ⟨_, rfl⟩
                have hVo : Below wo.heap.size wo V := by rw [← hV]; exact hoo2.out
                rw [hV]
                clear hV
                have HVo := hide hVo
                have hzV : wo.heap.size ≤ V.heap.size := hVo.size
                have hown0 : (V.alloc (.cells #[] 27)).ownsRow V.heap.size 27 3 (.slice (some ⟨V.heap.size, 0, none⟩) 0 0) 0 [] := World.ownsRow_made V #[] 0 (Nat.le_refl _) (by decide) rfl
                have hrowV := owns_below hF.out.1 HVo.out
                have hcellV : ∀ W, Below V.heap.size V W → ∀ n m j u, (((aflat f).drop (n * 3)).take (m * 3))[j]? = some u → W.cell? ((⟨g, n * 3, none⟩ : Addr).add j) = some u := fun W hW n m j u hu => by
                  have hj := (List.getElem?_eq_some_iff.1 hu).1
                  rw [List.getElem?_take_of_lt (by simp at hj; omega), List.getElem?_drop] at hu
                  have := (owns_below hrowV hW).cells (g := g) rfl _ u hu
                  simpa only [Addr.add_lit, Nat.zero_add] using this
                have hyV : ∀ W, Below V.heap.size V W → W.cell? ⟨b, o + (p + 1) * 3, none⟩ = some (.int .i64 rq) ∧ W.cell? ⟨b, o + (p + 1) * 3 + 1, none⟩ = some (.slice pa tq.length pc) ∧ W.cell? ⟨b, o + (p + 1) * 3 + 2, none⟩ = some (.int .i64 sq) := fun W hW => by
                  have hbb := HVo.out.trans (hW.mono hzV)
                  exact ⟨(hbb.cell (p := ⟨b, o + (p + 1) * 3, none⟩) hbl.out).trans d0, (hbb.cell (p := ⟨b, o + (p + 1) * 3 + 1, none⟩) hbl.out).trans d1, (hbb.cell (p := ⟨b, o + (p + 1) * 3 + 2, none⟩) hbl.out).trans d2⟩
                have hb0 : Below V.heap.size V (V.alloc (.cells #[] 27)) := (Below.refl _ _).alloc (Nat.le_refl _) _
                have Hb0 := hide hb0
                have Hown0 := hide hown0
                have Hnews1 := hide (hcellV _ hb0 0 (p + 1))
                have HcellV := hide hcellV
                have HyV := hide hyV
                have hl1 : Hid ((((aflat f).drop (0 * 3)).take ((p + 1) * 3)).length = (p + 1) * 3) := hide (by have := Hfl.out; have := aflat_length f; simp; try omega)
                have ho1 : Hid (∀ n m, ∀ u ∈ ((aflat f).drop n).take m, u.oneCell' = true) := hide (fun n m u hu => aflat_one f (fun a ha => by obtain ⟨aa, cc, e⟩ := (hfx.out a ha).form; exact ⟨_, _, _, e⟩) u (List.mem_of_mem_drop (List.mem_of_mem_take hu)))
                have hl3 : Hid ((((aflat f).drop (0 * 3)).take (0 * 3)).length = 0 * 3) := hide (by have := Hfl.out; have := aflat_length f; simp; try omega)
                clear hVo hown0 hrowV hcellV hyV hb0
                go_wp2_with (first
                  | (at_builtin; refine wpList_append_own _ rfl (.tmp 34) (.tmp 37) _ rfl V.heap.size 27 i0 (.agg #[.int .i64 0, .slice none 0 0, .int .i64 0]) 3 40 Try.underlying22 Hi.out Hz0.out Hz1.out Hz2.out rfl (by decide) (.slice (some ⟨V.heap.size, 0, none⟩) 0 0) 0 [] rfl Hown0.out ⟨g, 0 * 3, none⟩ (p + 1) (p + 1) (((aflat f).drop (0 * 3)).take ((p + 1) * 3)) rfl hl1.out Hnews1.out (ho1.out _ _) (by unfold maxLen; omega) (by omega) (by simp) ?_; intro v1 w1 hown1 hgrow1 _; simp only [Nat.zero_add, List.nil_append] at hown1; obtain ⟨n1a, n1c, rfl⟩ := row_form hown1; have Hb1 := hide (Hb0.out.grown hgrow1 (by simp) (fun k e => by cases e; exact Nat.le_refl _)); obtain ⟨y0, y1, y2⟩ := HyV.out w1 Hb1.out; have hz1 : V.heap.size ≤ w1.heap.size := Hb1.out.size; have Hown1 := hide (hown1.alloc (Obj.cells #[.int .i64 rq, .slice pa tq.length pc, .int .i64 sq] 27)); have Hn2 := hide (World.news_of_block (cs := #[.int .i64 rq, .slice pa tq.length pc, .int .i64 sq]) (t := 27) (fr := (0, 0)) (heap_alloc_new w1 (Obj.cells #[.int .i64 rq, .slice pa tq.length pc, .int .i64 sq] 27))); clear hown1 hgrow1)
                  | (at_builtin; refine wpList_append_own _ rfl (.tmp 39) (.tmp 44) _ rfl V.heap.size 27 i0 (.agg #[.int .i64 0, .slice none 0 0, .int .i64 0]) 3 40 Try.underlying22 Hi.out Hz0.out Hz1.out Hz2.out rfl (by decide) (.slice n1a (p + 1) n1c) (p + 1) (((aflat f).drop (0 * 3)).take ((p + 1) * 3)) rfl Hown1.out ⟨w1.heap.size, 0, none⟩ 1 1 [.int .i64 rq, .slice pa tq.length pc, .int .i64 sq] rfl rfl Hn2.out (by simp [Value.oneCell']) (by unfold maxLen; omega) (by omega) (by simp; omega) ?_; intro v2 w2 hown2 hgrow2 _; obtain ⟨n2a, n2c, rfl⟩ := row_form hown2; have Hb2 := hide ((Hb1.out.alloc hz1 _).grown hgrow2 (by simp; omega) (fun k e => row_own Hown1.out k e)); have hz2' : V.heap.size ≤ w2.heap.size := Hb2.out.size; have Hown2 := hide hown2; have Hn3 := hide (HcellV.out w2 Hb2.out 0 0); clear hown2 hgrow2 y0 y1 y2)
                  | (at_builtin; refine wpList_append_own _ rfl (.tmp 46) (.tmp 49) _ rfl V.heap.size 27 i0 (.agg #[.int .i64 0, .slice none 0 0, .int .i64 0]) 3 40 Try.underlying22 Hi.out Hz0.out Hz1.out Hz2.out rfl (by decide) (.slice n2a ((p + 1) + 1) n2c) ((p + 1) + 1) (((aflat f).drop (0 * 3)).take ((p + 1) * 3) ++ [.int .i64 rq, .slice pa tq.length pc, .int .i64 sq]) rfl Hown2.out ⟨g, 0 * 3, none⟩ 0 0 (((aflat f).drop (0 * 3)).take (0 * 3)) rfl hl3.out Hn3.out (ho1.out _ _) (by unfold maxLen; omega) (by omega) (by omega) ?_; intro v3 w3 hown3 hgrow3 _; obtain ⟨n3a, n3c, rfl⟩ := row_form hown3; have Hb3 := hide (Hb2.out.grown hgrow3 hz2' (fun k e => row_own Hown2.out k e)); have Hown3 := hide hown3; clear hown3 hgrow3))
                have hlist : ((aflat f).drop (0 * 3)).take ((p + 1) * 3) ++ [.int .i64 rq, .slice pa tq.length pc, .int .i64 sq] ++ ((aflat f).drop (0 * 3)).take (0 * 3) = aflat (f.take (p + 1) ++ [(⟨rq, tq, sq, .slice pa tq.length pc⟩ : Ac)] ++ f.drop (p + 1)) := by
                  have := Hfl.out
                  simp only [aflat_drop, aflat_take, aflat_append, List.drop_zero]
                  rw [List.drop_eq_nil_of_le (show f.length ≤ p + 1 by omega)]; simp [aflat]
                have hnew : Hid (GIs s w.heap.size w3 (.slice n3a ((p + 1) + 1) n3c) (f.take (p + 1) ++ [(⟨rq, tq, sq, .slice pa tq.length pc⟩ : Ac)] ++ f.drop (p + 1)) l ((p + 1) + 1)) := by
                  have hrow := Hown3.out
                  rw [hlist, show (p + 1) + 1 + 0 = (p + 1) + 1 by omega] at hrow
                  have hfl := Hfl.out
                  refine ⟨owns_base hrow (by have := hb.out.size; omega), by simp; omega, insA_perm f l _ (p + 1) (p + 1) hlt Hq.out hF.out.2.2.1, insA_sorted s f _ (p + 1) (by omega) hF.out.2.2.2.1 (fun j h hj => hle.out j h hj) (fun p2 h hp => lt_of hp Hres.out), fun h => by omega⟩
                have hbw : Hid (Below w.heap.size w w3) := by
                  have q1 : Below w.heap.size w V := hb.out.trans (HVo.out.mono hb.out.size)
                  exact q1.trans (Hb3.out.mono q1.size)
                rw [show (p + 1) + 1 + 0 = (p + 1) + 1 by omega]
                go_wp2
                go_roundw
                case rel => exact ⟨(p + 1) + 1, _, _, _, by omega, by go_num, rfl, hnew.out, hbw.out⟩
                case measure => simp [intOf]; omega
              · go_upto_region 8 with fail
                obtain ⟨V, hV⟩ : ∃ V, V0 = V := ⟨_, rfl⟩
                have hVo : Below wo.heap.size wo V := by rw [← hV]; exact hoo2.out
                rw [hV]
                clear hV
                have HVo := hide hVo
                have hzV : wo.heap.size ≤ V.heap.size := hVo.size
                have hown0 : (V.alloc (.cells #[] 27)).ownsRow V.heap.size 27 3 (.slice (some ⟨V.heap.size, 0, none⟩) 0 0) 0 [] := World.ownsRow_made V #[] 0 (Nat.le_refl _) (by decide) rfl
                have hrowV := owns_below hF.out.1 HVo.out
                have hcellV : ∀ W, Below V.heap.size V W → ∀ n m j u, (((aflat f).drop (n * 3)).take (m * 3))[j]? = some u → W.cell? ((⟨g, n * 3, none⟩ : Addr).add j) = some u := fun W hW n m j u hu => by
                  have hj := (List.getElem?_eq_some_iff.1 hu).1
                  rw [List.getElem?_take_of_lt (by simp at hj; omega), List.getElem?_drop] at hu
                  have := (owns_below hrowV hW).cells (g := g) rfl _ u hu
                  simpa only [Addr.add_lit, Nat.zero_add] using this
                have hyV : ∀ W, Below V.heap.size V W → W.cell? ⟨b, o + i * 3, none⟩ = some (.int .i64 rq) ∧ W.cell? ⟨b, o + i * 3 + 1, none⟩ = some (.slice pa tq.length pc) ∧ W.cell? ⟨b, o + i * 3 + 2, none⟩ = some (.int .i64 sq) := fun W hW => by
                  have hbb := HVo.out.trans (hW.mono hzV)
                  exact ⟨(hbb.cell (p := ⟨b, o + i * 3, none⟩) hbl.out).trans d0, (hbb.cell (p := ⟨b, o + i * 3 + 1, none⟩) hbl.out).trans d1, (hbb.cell (p := ⟨b, o + i * 3 + 2, none⟩) hbl.out).trans d2⟩
                have hb0 : Below V.heap.size V (V.alloc (.cells #[] 27)) := (Below.refl _ _).alloc (Nat.le_refl _) _
                have Hb0 := hide hb0
                have Hown0 := hide hown0
                have Hnews1 := hide (hcellV _ hb0 0 (p + 1))
                have HcellV := hide hcellV
                have HyV := hide hyV
                have hl1 : Hid ((((aflat f).drop (0 * 3)).take ((p + 1) * 3)).length = (p + 1) * 3) := hide (by have := Hfl.out; have := aflat_length f; simp; try omega)
                have ho1 : Hid (∀ n m, ∀ u ∈ ((aflat f).drop n).take m, u.oneCell' = true) := hide (fun n m u hu => aflat_one f (fun a ha => by obtain ⟨aa, cc, e⟩ := (hfx.out a ha).form; exact ⟨_, _, _, e⟩) u (List.mem_of_mem_drop (List.mem_of_mem_take hu)))
                have hl3 : Hid ((((aflat f).drop ((p + 1) * 3)).take ((i - (p + 1)) * 3)).length = (i - (p + 1)) * 3) := hide (by have := Hfl.out; have := aflat_length f; simp; try omega)
                clear hVo hown0 hrowV hcellV hyV hb0
                go_wp2_with (first
                  | (at_builtin; refine wpList_append_own _ rfl (.tmp 34) (.tmp 37) _ rfl V.heap.size 27 i0 (.agg #[.int .i64 0, .slice none 0 0, .int .i64 0]) 3 40 Try.underlying22 Hi.out Hz0.out Hz1.out Hz2.out rfl (by decide) (.slice (some ⟨V.heap.size, 0, none⟩) 0 0) 0 [] rfl Hown0.out ⟨g, 0 * 3, none⟩ (p + 1) fc (((aflat f).drop (0 * 3)).take ((p + 1) * 3)) rfl hl1.out Hnews1.out (ho1.out _ _) (by unfold maxLen; omega) (by omega) (by simp) ?_; intro v1 w1 hown1 hgrow1 _; simp only [Nat.zero_add, List.nil_append] at hown1; obtain ⟨n1a, n1c, rfl⟩ := row_form hown1; have Hb1 := hide (Hb0.out.grown hgrow1 (by simp) (fun k e => by cases e; exact Nat.le_refl _)); obtain ⟨y0, y1, y2⟩ := HyV.out w1 Hb1.out; have hz1 : V.heap.size ≤ w1.heap.size := Hb1.out.size; have Hown1 := hide (hown1.alloc (Obj.cells #[.int .i64 rq, .slice pa tq.length pc, .int .i64 sq] 27)); have Hn2 := hide (World.news_of_block (cs := #[.int .i64 rq, .slice pa tq.length pc, .int .i64 sq]) (t := 27) (fr := (0, 0)) (heap_alloc_new w1 (Obj.cells #[.int .i64 rq, .slice pa tq.length pc, .int .i64 sq] 27))); clear hown1 hgrow1)
                  | (at_builtin; refine wpList_append_own _ rfl (.tmp 39) (.tmp 44) _ rfl V.heap.size 27 i0 (.agg #[.int .i64 0, .slice none 0 0, .int .i64 0]) 3 40 Try.underlying22 Hi.out Hz0.out Hz1.out Hz2.out rfl (by decide) (.slice n1a (p + 1) n1c) (p + 1) (((aflat f).drop (0 * 3)).take ((p + 1) * 3)) rfl Hown1.out ⟨w1.heap.size, 0, none⟩ 1 1 [.int .i64 rq, .slice pa tq.length pc, .int .i64 sq] rfl rfl Hn2.out (by simp [Value.oneCell']) (by unfold maxLen; omega) (by omega) (by simp; omega) ?_; intro v2 w2 hown2 hgrow2 _; obtain ⟨n2a, n2c, rfl⟩ := row_form hown2; have Hb2 := hide ((Hb1.out.alloc hz1 _).grown hgrow2 (by simp; omega) (fun k e => row_own Hown1.out k e)); have hz2' : V.heap.size ≤ w2.heap.size := Hb2.out.size; have Hown2 := hide hown2; have Hn3 := hide (HcellV.out w2 Hb2.out (p + 1) (i - (p + 1))); clear hown2 hgrow2 y0 y1 y2)
                  | (at_builtin; refine wpList_append_own _ rfl (.tmp 46) (.tmp 49) _ rfl V.heap.size 27 i0 (.agg #[.int .i64 0, .slice none 0 0, .int .i64 0]) 3 40 Try.underlying22 Hi.out Hz0.out Hz1.out Hz2.out rfl (by decide) (.slice n2a ((p + 1) + 1) n2c) ((p + 1) + 1) (((aflat f).drop (0 * 3)).take ((p + 1) * 3) ++ [.int .i64 rq, .slice pa tq.length pc, .int .i64 sq]) rfl Hown2.out ⟨g, (p + 1) * 3, none⟩ (i - (p + 1)) (fc - (p + 1)) (((aflat f).drop ((p + 1) * 3)).take ((i - (p + 1)) * 3)) rfl hl3.out Hn3.out (ho1.out _ _) (by unfold maxLen; omega) (by omega) (by omega) ?_; intro v3 w3 hown3 hgrow3 _; obtain ⟨n3a, n3c, rfl⟩ := row_form hown3; have Hb3 := hide (Hb2.out.grown hgrow3 hz2' (fun k e => row_own Hown2.out k e)); have Hown3 := hide hown3; clear hown3 hgrow3))
                have hlist : ((aflat f).drop (0 * 3)).take ((p + 1) * 3) ++ [.int .i64 rq, .slice pa tq.length pc, .int .i64 sq] ++ ((aflat f).drop ((p + 1) * 3)).take ((i - (p + 1)) * 3) = aflat (f.take (p + 1) ++ [(⟨rq, tq, sq, .slice pa tq.length pc⟩ : Ac)] ++ f.drop (p + 1)) := by
                  have := Hfl.out
                  simp only [aflat_drop, aflat_take, aflat_append, List.drop_zero]
                  rw [List.take_of_length_le (l := f.drop (p + 1)) (by simp; omega)]; rfl
                have hnew : Hid (GIs s w.heap.size w3 (.slice n3a (i + 1) n3c) (f.take (p + 1) ++ [(⟨rq, tq, sq, .slice pa tq.length pc⟩ : Ac)] ++ f.drop (p + 1)) l (i + 1)) := by
                  have hrow := Hown3.out
                  rw [hlist, show (p + 1) + 1 + (i - (p + 1)) = i + 1 by omega] at hrow
                  have hfl := Hfl.out
                  refine ⟨owns_base hrow (by have := hb.out.size; omega), by simp; omega, insA_perm f l _ (p + 1) i hlt Hq.out hF.out.2.2.1, insA_sorted s f _ (p + 1) (by omega) hF.out.2.2.2.1 (fun j h hj => hle.out j h hj) (fun p2 h hp => lt_of hp Hres.out), fun h => by omega⟩
                have hbw : Hid (Below w.heap.size w w3) := by
                  have q1 : Below w.heap.size w V := hb.out.trans (HVo.out.mono hb.out.size)
                  exact q1.trans (Hb3.out.mono q1.size)
                rw [show (p + 1) + 1 + (i - (p + 1)) = i + 1 by omega]
                go_wp2
                go_roundw
                case rel => exact ⟨i + 1, _, _, _, by omega, by go_num, rfl, hnew.out, hbw.out⟩
                case measure => simp [intOf]; omega
          · obtain rfl : k = 0 := by omega
            have z1 : ¬ fc = 0 := by omega
            go_wp2_with fail
            go_quiet (fail)
            go_upto_region 8 with fail
            obtain ⟨V, hV⟩ : ∃ V, wr.drewN nq = V := ⟨_, rfl⟩
            have hVo : Below wo.heap.size wo V := by rw [← hV]; exact below_drewN hoo.out _
            rw [hV]
            clear hV
            have HVo := hide hVo
            have hzV : wo.heap.size ≤ V.heap.size := hVo.size
            have hown0 : (V.alloc (.cells #[] 27)).ownsRow V.heap.size 27 3 (.slice (some ⟨V.heap.size, 0, none⟩) 0 0) 0 [] := World.ownsRow_made V #[] 0 (Nat.le_refl _) (by decide) rfl
            have hrowV := owns_below hF.out.1 HVo.out
            have hcellV : ∀ W, Below V.heap.size V W → ∀ n m j u, (((aflat f).drop (n * 3)).take (m * 3))[j]? = some u → W.cell? ((⟨g, n * 3, none⟩ : Addr).add j) = some u := fun W hW n m j u hu => by
              have hj := (List.getElem?_eq_some_iff.1 hu).1
              rw [List.getElem?_take_of_lt (by simp at hj; omega), List.getElem?_drop] at hu
              have := (owns_below hrowV hW).cells (g := g) rfl _ u hu
              simpa only [Addr.add_lit, Nat.zero_add] using this
            have hyV : ∀ W, Below V.heap.size V W → W.cell? ⟨b, o + i * 3, none⟩ = some (.int .i64 rq) ∧ W.cell? ⟨b, o + i * 3 + 1, none⟩ = some (.slice pa tq.length pc) ∧ W.cell? ⟨b, o + i * 3 + 2, none⟩ = some (.int .i64 sq) := fun W hW => by
              have hbb := HVo.out.trans (hW.mono hzV)
              exact ⟨(hbb.cell (p := ⟨b, o + i * 3, none⟩) hbl.out).trans d0, (hbb.cell (p := ⟨b, o + i * 3 + 1, none⟩) hbl.out).trans d1, (hbb.cell (p := ⟨b, o + i * 3 + 2, none⟩) hbl.out).trans d2⟩
            have hb0 : Below V.heap.size V (V.alloc (.cells #[] 27)) := (Below.refl _ _).alloc (Nat.le_refl _) _
            have Hb0 := hide hb0
            have Hown0 := hide hown0
            have Hnews1 := hide (hcellV _ hb0 0 0)
            have HcellV := hide hcellV
            have HyV := hide hyV
            have hl1 : Hid ((((aflat f).drop (0 * 3)).take (0 * 3)).length = 0 * 3) := hide (by have := Hfl.out; have := aflat_length f; simp; try omega)
            have ho1 : Hid (∀ n m, ∀ u ∈ ((aflat f).drop n).take m, u.oneCell' = true) := hide (fun n m u hu => aflat_one f (fun a ha => by obtain ⟨aa, cc, e⟩ := (hfx.out a ha).form; exact ⟨_, _, _, e⟩) u (List.mem_of_mem_drop (List.mem_of_mem_take hu)))
            have hl3 : Hid ((((aflat f).drop (0 * 3)).take (i * 3)).length = i * 3) := hide (by have := Hfl.out; have := aflat_length f; simp; try omega)
            clear hVo hown0 hrowV hcellV hyV hb0
            go_wp2_with (first
              | (at_builtin; refine wpList_append_own _ rfl (.tmp 34) (.tmp 37) _ rfl V.heap.size 27 i0 (.agg #[.int .i64 0, .slice none 0 0, .int .i64 0]) 3 40 Try.underlying22 Hi.out Hz0.out Hz1.out Hz2.out rfl (by decide) (.slice (some ⟨V.heap.size, 0, none⟩) 0 0) 0 [] rfl Hown0.out ⟨g, 0 * 3, none⟩ 0 fc (((aflat f).drop (0 * 3)).take (0 * 3)) rfl hl1.out Hnews1.out (ho1.out _ _) (by unfold maxLen; omega) (by omega) (by simp) ?_; intro v1 w1 hown1 hgrow1 _; simp only [Nat.zero_add, List.nil_append] at hown1; obtain ⟨n1a, n1c, rfl⟩ := row_form hown1; have Hb1 := hide (Hb0.out.grown hgrow1 (by simp) (fun k e => by cases e; exact Nat.le_refl _)); obtain ⟨y0, y1, y2⟩ := HyV.out w1 Hb1.out; have hz1 : V.heap.size ≤ w1.heap.size := Hb1.out.size; have Hown1 := hide (hown1.alloc (Obj.cells #[.int .i64 rq, .slice pa tq.length pc, .int .i64 sq] 27)); have Hn2 := hide (World.news_of_block (cs := #[.int .i64 rq, .slice pa tq.length pc, .int .i64 sq]) (t := 27) (fr := (0, 0)) (heap_alloc_new w1 (Obj.cells #[.int .i64 rq, .slice pa tq.length pc, .int .i64 sq] 27))); clear hown1 hgrow1)
              | (at_builtin; refine wpList_append_own _ rfl (.tmp 39) (.tmp 44) _ rfl V.heap.size 27 i0 (.agg #[.int .i64 0, .slice none 0 0, .int .i64 0]) 3 40 Try.underlying22 Hi.out Hz0.out Hz1.out Hz2.out rfl (by decide) (.slice n1a 0 n1c) 0 (((aflat f).drop (0 * 3)).take (0 * 3)) rfl Hown1.out ⟨w1.heap.size, 0, none⟩ 1 1 [.int .i64 rq, .slice pa tq.length pc, .int .i64 sq] rfl rfl Hn2.out (by simp [Value.oneCell']) (by unfold maxLen; omega) (by omega) (by simp; omega) ?_; intro v2 w2 hown2 hgrow2 _; obtain ⟨n2a, n2c, rfl⟩ := row_form hown2; have Hb2 := hide ((Hb1.out.alloc hz1 _).grown hgrow2 (by simp; omega) (fun k e => row_own Hown1.out k e)); have hz2' : V.heap.size ≤ w2.heap.size := Hb2.out.size; have Hown2 := hide hown2; have Hn3 := hide (HcellV.out w2 Hb2.out 0 i); clear hown2 hgrow2 y0 y1 y2)
              | (at_builtin; refine wpList_append_own _ rfl (.tmp 46) (.tmp 49) _ rfl V.heap.size 27 i0 (.agg #[.int .i64 0, .slice none 0 0, .int .i64 0]) 3 40 Try.underlying22 Hi.out Hz0.out Hz1.out Hz2.out rfl (by decide) (.slice n2a (0 + 1) n2c) (0 + 1) (((aflat f).drop (0 * 3)).take (0 * 3) ++ [.int .i64 rq, .slice pa tq.length pc, .int .i64 sq]) rfl Hown2.out ⟨g, 0 * 3, none⟩ i fc (((aflat f).drop (0 * 3)).take (i * 3)) rfl hl3.out Hn3.out (ho1.out _ _) (by unfold maxLen; omega) (by omega) (by omega) ?_; intro v3 w3 hown3 hgrow3 _; obtain ⟨n3a, n3c, rfl⟩ := row_form hown3; have Hb3 := hide (Hb2.out.grown hgrow3 hz2' (fun k e => row_own Hown2.out k e)); have Hown3 := hide hown3; clear hown3 hgrow3))
            have hlist : ((aflat f).drop (0 * 3)).take (0 * 3) ++ [.int .i64 rq, .slice pa tq.length pc, .int .i64 sq] ++ ((aflat f).drop (0 * 3)).take (i * 3) = aflat (f.take 0 ++ [(⟨rq, tq, sq, .slice pa tq.length pc⟩ : Ac)] ++ f.drop 0) := by
              have := Hfl.out
              simp only [aflat_drop, aflat_take, aflat_append, List.drop_zero]
              rw [show f.take i = f from List.take_of_length_le (by omega)]; rfl
            have hnew : Hid (GIs s w.heap.size w3 (.slice n3a (i + 1) n3c) (f.take 0 ++ [(⟨rq, tq, sq, .slice pa tq.length pc⟩ : Ac)] ++ f.drop 0) l (i + 1)) := by
              have hrow := Hown3.out
              rw [hlist, show 0 + 1 + i = i + 1 by omega] at hrow
              have hfl := Hfl.out
              refine ⟨owns_base hrow (by have := hb.out.size; omega), by simp; omega, insA_perm f l _ 0 i hlt Hq.out hF.out.2.2.1, insA_sorted s f _ 0 (by omega) hF.out.2.2.2.1 (fun j h hj => hle.out j h hj) (fun p2 h hp => by omega), fun h => by omega⟩
            have hbw : Hid (Below w.heap.size w w3) := by
              have q1 : Below w.heap.size w V := hb.out.trans (HVo.out.mono hb.out.size)
              exact q1.trans (Hb3.out.mono q1.size)
            rw [show 0 + 1 + i = i + 1 by omega]
            go_wp2
            go_roundw
            case rel => exact ⟨i + 1, _, _, _, by omega, by go_num, rfl, hnew.out, hbw.out⟩
            case measure => simp [intOf]; omega
    · obtain rfl : i = l.length := by omega
      have hfl := hF.out.2.1
      have hacts := hide (ActsIs.of_owns (l := f) (B := w.heap.size) (v := .slice fa l.length fc) (by omega) (by rw [hfl]; exact hF.out.1) (fun a ha => (HL.out.below hb.out).tups a (List.mem_of_mem_take (hF.out.2.2.1.subset ha))))
      have hso := hide (sortC_unique s (l := l.map Ac.co) (m := f.map Ac.co) (by have := hF.out.2.2.1; rw [List.take_length] at this; exact this.map _) (by rw [List.pairwise_map]; exact hF.out.2.2.2.1))
      have Hb := hide hb.out
      have Hp : Hid (f.Perm l) := hide (by have := hF.out.2.2.1; rwa [List.take_length] at this)
      have Hcap := hide hF.out.1
      clear hF hb hfl
      go_wp2
      go_ret
      exact ⟨_, f, rfl, hacts.out, hso.out, Hb.out, Hp.out, by rw [Hp.out.length_eq]; exact Hcap.out⟩

theorem rsort_any (s : Int) (v : Value) (l : List Ac) (w : World) (h : ActsIs w v l) :
    Calls Try.prog 41 #[.int .u8 s, v] w fun e w' => ∃ v' l', e = .returned v' ∧ ActsIs w' v' l' ∧ l'.map Ac.co = sortC s (l.map Ac.co) ∧ Below w.heap.size w w' :=
  (rsort_perm s v l w h).mono fun _ _ ⟨v', l', h1, h2, h3, h4, _⟩ => ⟨v', l', h1, h2, h3, h4⟩
end Go.Proofs.Ytelgajgghgknnaa
