/- The walk of TruthMore. -/
import Derived.Test.YtmcajoccfbebiaaTrMoreL
import Derived.Test.YtmcajoccfbebiaaTrCopy
import Derived.Test.YtmcajoccfbebiaaTrWdW
import Derived.Test.YtmcajoccfbebiaaTrHeldW
import Derived.Test.YtmcajoccfbebiaaOpsRow
namespace Go.Proofs.Ytmcajoccfbebiaa
open Go Go.RowKit Go.MapKept Go.Sort

theorem NIs.src {w : World} {x : Value} {l : List Int} (h : NIs w x l) : (x = .slice none 0 0 ∧ l.length = 0 ∧ l.map (Value.int .i64) = []) ∨ ∃ ad c, x = .slice (some ad) l.length c ∧ (l.map (Value.int .i64)).length = l.length * 1 ∧ ∀ j u, (l.map (Value.int .i64))[j]? = some u → w.cell? (ad.add j) = some u := by
  obtain ⟨_, ⟨b, off, cap, rfl, hi⟩ | ⟨rfl, rfl | ⟨a, cap, rfl⟩⟩⟩ := h
  · refine .inr ⟨_, _, rfl, by simp, fun j u hu => ?_⟩
    obtain ⟨hj, e⟩ := List.getElem?_eq_some_iff.1 hu
    rw [List.getElem_map] at e
    rw [Addr.add_lit, ← e]
    exact hi j (by simpa using hj)
  · exact .inl ⟨rfl, rfl, rfl⟩
  · exact .inr ⟨a, cap, rfl, rfl, by simp⟩

theorem LostOf.len {M : List Sp} {ll : List Int} (h : LostOf M ll) : ll.length ≤ M.length := by
  obtain ⟨P, _, rfl⟩ := h
  refine Nat.le_trans (List.length_filter_le _ _) ?_
  have := (rise_perm (M.map Sp.id)).length_eq
  unfold idsS
  rw [this, List.length_map]
  exact Nat.le_refl _
/-- What is kept, while TruthMore goes on. -/
structure MoreSt (W0 V : World) (b mb : Nat) (M : List Sp) (c mc : Nat) (Mc : List Sp) (wv : Value) (was : List Int) : Prop where
  b : BookIs V b mb M
  c : BookIs V c mc Mc
  was : NIs V wv was
  below : Below W0.heap.size W0 V
theorem MoreSt.to {W0 V V' : World} {b mb : Nat} {M : List Sp} {c mc : Nat} {Mc : List Sp} {wv : Value} {was : List Int} (h : MoreSt W0 V b mb M c mc Mc wv was) (hb : Below V.heap.size V V') : MoreSt W0 V' b mb M c mc Mc wv was :=
  ⟨h.b.below hb, h.c.below hb, h.was.below hb, h.below.trans (hb.mono h.below.size)⟩
/-- Another book's map turns. -/
theorem MoreSt.other {W0 V V' : World} {b mb : Nat} {M : List Sp} {c mc : Nat} {Mc : List Sp} {wv : Value} {was : List Int} {d md : Nat} {Md : List Sp} (h : MoreSt W0 V b mb M c mc Mc wv was) (hd : BookIs V d md Md) (h1 : mb ≠ md) (h2 : mc ≠ md) (h3 : W0.heap.size ≤ md) (ho : Only [md] V V') : MoreSt W0 V' b mb M c mc Mc wv was :=
  ⟨h.b.other hd.map h1 ho, h.c.other hd.map h2 ho, h.was.keeps (KeepsCells.map hd.map ho), below_only h.below ho (fun i hi => by simp only [List.mem_singleton] at hi; omega) h.below.size⟩
theorem MoreSt.turn {W0 V V' : World} {b mb : Nat} {M : List Sp} {c mc : Nat} {Mc Mc' : List Sp} {wv : Value} {was : List Int} (h : MoreSt W0 V b mb M c mc Mc wv was) (hc : BookIs V' c mc Mc') (h1 : mb ≠ mc) (h3 : W0.heap.size ≤ mc) (ho : Only [mc] V V') : MoreSt W0 V' b mb M c mc Mc' wv was :=
  ⟨h.b.other h.c.map h1 ho, hc, h.was.keeps (KeepsCells.map h.c.map ho), below_only h.below ho (fun i hi => by simp only [List.mem_singleton] at hi; omega) h.below.size⟩

set_option maxRecDepth 100000 in
set_option maxHeartbeats 16000000 in
theorem more29_walk (vl : Value) (l : List OpD) (id : Int) (j : JD) (w : World) (hl : OpsD w vl l) (hj : JOk w j) (hwf : (Lit.int .i64 id).wf = true) :
    Calls Try.prog 10 #[vl, .int .i64 id, j.val] w fun e w' => e = .returned (.bool true) ∧ Below w.heap.size w w' := by
  obtain ⟨la, lc, rfl⟩ := hl.form
  obtain ⟨jr, ja, jn, jc, jt⟩ := j
  unfold JD.val
  simp only
  obtain ⟨W0, hW0⟩ : ∃ W0, w.alloc (Obj.cells #[.int .i64 jr, .slice ja jn jc] 53) = W0 := ⟨_, rfl⟩
  have hb0 : Below w.heap.size w W0 := by rw [← hW0]; exact ((Only.refl [] w).alloc _).below
  have hx0 := heap_alloc0 w (Obj.cells #[.int .i64 jr, .slice ja jn jc] 53)
  have hz0 : W0.heap.size = w.heap.size + 1 := by rw [← hW0]; simp
  rw [hW0] at hx0
  obtain ⟨x0, x1, _⟩ := cells2e hx0
  have Hg := hide (great_any _ l W0 (hl.below hb0))
  have Hl := hide (hl.below hb0)
  have HW0 := hide hW0
  have Hb0 := hide hb0
  have hjn := hj.1
  have Hj := hide (hj.below hb0)
  have Hx0 := hide (And.intro x0 x1)
  have hle0 : w.heap.size ≤ W0.heap.size := by omega
  clear hl hj hb0 hW0 hx0 hz0
  simp only at hjn
  cases hg : greatO l with
  | true =>
    rw [hg] at Hg
    clear hg
    go_enter Try.func10, Try.ntmps10
    go_upto_region 1 with fail
    rw [HW0.out]
    go_wp2_with fail
    (with_reducible refine Hg.out.mono ?_)
    rintro e V ⟨rfl, rfl⟩
    go_wp2_with (go_at_call 25; refine (known29_walk _).mono ?_; rintro e w' ⟨rfl, hk⟩)
    go_ret
    exact ⟨rfl, Hb0.out.trans (hk.mono hle0)⟩
  | false =>
    rw [hg] at Hg
    obtain ⟨hl60, hn20⟩ := greatO_false hg
    have Hn20 := hide hn20
    clear hg hn20
    by_cases hj20 : 20 < jn
    · have hgt : (20 : Int) < (jn : Int) := by omega
      go_enter Try.func10, Try.ntmps10
      go_upto_region 1 with fail
      rw [HW0.out]
      go_wp2_with fail
      (with_reducible refine Hg.out.mono ?_)
      rintro e V ⟨rfl, rfl⟩
      go_wp2_with (go_at_call 25; refine (known29_walk _).mono ?_; rintro e w' ⟨rfl, hk⟩)
      go_ret
      exact ⟨rfl, Hb0.out.trans (hk.mono hle0)⟩
    · have hgt : ¬ (20 : Int) < (jn : Int) := by omega
      obtain ⟨hjl, hjI⟩ := Hj.out.2 (by show jn ≤ _; omega)
      simp only at hjl hjI
      subst hjl
      have HjI := hide hjI
      have hj20' : jt.length ≤ 20 := by omega
      have hJv : (⟨jr, jt, .slice ja jt.length jc⟩ : Jc).val = .agg #[.int .i64 jr, .slice ja jt.length jc] := rfl
      obtain ⟨J, hJ⟩ : ∃ J : Jc, (⟨jr, jt, .slice ja jt.length jc⟩ : Jc) = J := ⟨_, rfl⟩
      have hJn : ∀ V, NIs V (.slice ja jt.length jc) jt → NIs V J.x J.tup := fun V h => by rw [← hJ]; exact h
      rw [hJ] at hJv
      have HJn := hide hJn
      have HJv := hide hJv
      have Hheld := hide (held29_any _ l W0 Hl.out Hn20.out (by omega))
      clear hjI hJ hJn hJv Hj Hl Hn20
      go_enter Try.func10, Try.ntmps10
      go_upto_region 1 with fail
      rw [HW0.out]
      go_wp2_with fail
      (with_reducible refine Hg.out.mono ?_)
      rintro e V ⟨rfl, rfl⟩
      clear Hg
      go_wp2_with fail
      (with_reducible refine Hheld.out.mono ?_)
      rintro e W1 ⟨b, mb, M, rfl, hB, hS, hb1, hbb, hmb⟩
      have hMlen := hB.len
      have hMjs := hB.js
      have Hcopy := hide (copy_any b mb M W1 hB.book)
      have HB := hide hB.book
      have HS := hide hS
      have Hb1 := hide hb1
      have HMjs := hide hMjs
      have hbl := lt_of_heap hB.book.blk
      have hmbl := hB.book.map.lt
      clear hB hS hb1 hMjs Hheld x0 x1
      go_wp2_with fail
      (with_reducible refine Hcopy.out.mono ?_)
      rintro e W2 ⟨c, mc, rfl, hC, hb2, hcb, hmcb⟩
      have HB2 := hide (HB.out.below hb2)
      have HC := hide hC
      have Hb2 := hide (Hb1.out.trans (hb2.mono Hb1.out.size))
      have Hlost := hide (lost_any b mb M W2 HB2.out)
      have hne1 : mb ≠ mc := by omega
      clear hC hb2 Hcopy HB Hb1
      go_wp2_with fail
      (with_reducible refine Hlost.out.mono ?_)
      rintro e W3 ⟨v, was, rfl, hwn, hwP, hb3⟩
      obtain ⟨wa, wc, rfl⟩ := hwn.form
      have Hwas := hide hwn
      have HwP : Hid (LostOf M was) := hide hwP
      have HB3 := hide (HB2.out.below hb3)
      have HC3 := hide (HC.out.below hb3)
      have Hb3 := hide (Hb2.out.trans (hb3.mono Hb2.out.size))
      have Hof := hide (of_any b mb M id W3 HB3.out (by have := HMjs.out id; omega))
      clear hwn hwP hb3 Hlost HB2 HC Hb2
      go_wp2_with fail
      (with_reducible refine Hof.out.mono ?_)
      rintro e W4 ⟨v, L, rfl, hoL, hLp, _, hb4⟩
      obtain ⟨oa, oc, rfl⟩ := hoL.form
      have hLl : L.length = (getD M id).js.length := by
        have h1 := hLp.length_eq
        rwa [List.length_map, List.length_map] at h1
      have HC4 := hide (HC3.out.below hb4)
      have hb04 : Below W0.heap.size W0 W4 := Hb3.out.trans (hb4.mono Hb3.out.size)
      have HSt4 := hide (show MoreSt W0 W4 b mb M c mc M (.slice wa was.length wc) was from ⟨HB3.out.below hb4, HC4.out, Hwas.out.below hb4, hb04⟩)
      have hy0 := (KeepsCells.below hb04) _ _ Hx0.out.1
      have hy1 := (KeepsCells.below hb04) _ _ Hx0.out.2
      have Hju := hide (justify_any c mc M id J W4 HC4.out (HJn.out _ (HjI.out.below hb04)) hwf (by omega) (by have := HMjs.out id; omega))
      rw [HJv.out] at Hju
      obtain ⟨had, hhad⟩ : ∃ had, L.length = had := ⟨_, rfl⟩
      rw [hhad] at hLl
      have Hhad := hide hLl
      rw [hhad]
      obtain ⟨fr, hfr⟩ : ∃ fr, (!((getD M id).js.any fun x => x.same J)) = fr := ⟨_, rfl⟩
      have hfr2 : ((getD M id).js.any fun x => x.same J) = !fr := by rw [← hfr, Bool.not_not]
      rw [hfr, hfr2] at Hju
      have hhadl : had ≤ 60 := by have := HMjs.out id; omega
      have hwasl : was.length ≤ 60 := by have := HwP.out.len; omega
      clear hoL hLp hb4 Hof HB3 HC3 hb04 Hwas hhad hfr hfr2 hLl Hb3
      go_wp2_with fail
      (with_reducible refine Hju.out.mono ?_)
      rintro e W5 ⟨rfl, ⟨q, hq1, hq2, hq3, hC5⟩, ho5⟩
      have HSt5 := hide (HSt4.out.turn hC5 hne1 (by omega) ho5)
      have hcs : ∀ x ∈ (getD M id).js.map Jc.co, x ∈ q.js.map Jc.co := fun x hx => by rw [hq3]; exact List.mem_append_left _ hx
      have hmore := fun (now : List Int) (h : LostOf (putS M q) now) => more_put (q := q) (by rw [hq1, hq2]; exact fun h => h) (by rw [hq1]; exact hcs) HwP.out h
      have hqn : (fr = true ∧ q.js.length = had + 1) ∨ (fr = false ∧ had = q.js.length) := by
        have h1 := congrArg List.length hq3
        rw [List.length_map, List.length_append, List.length_map, ← Hhad.out] at h1
        cases fr
        · exact .inr ⟨rfl, by simpa using h1.symm⟩
        · exact .inl ⟨rfl, by simpa using h1⟩
      have hgq : getD (putS M q) id = q := by rw [getD_put, if_pos hq1]
      have hidm : id ∈ (putS M q).map Sp.id := (mem_put_ids M q id).2 (.inr hq1)
      rw [hq1] at hmore
      have hnd : ((putS M q).map Sp.id).Nodup := put_nodup q HS.out.ids
      have hjsl : ∀ x, (getD (putS M q) x).js.length < 1000 := fun x => by
        rw [getD_put]
        split
        · omega
        · have := HMjs.out x
          omega
      have hMcl : (putS M q).length < 1000 := by have := putS_length M q; omega
      obtain ⟨Mc, hMc⟩ : ∃ Mc, putS M q = Mc := ⟨_, rfl⟩
      rw [hMc] at HSt5 hmore hgq hidm hnd hjsl hMcl
      have Hmore := hide hmore
      have Hidm := hide hidm
      have Hnd := hide hnd
      have Hjsl := hide hjsl
      have Hgq : Hid ((getD Mc id).js.length = q.js.length) := hide (by rw [hgq])
      obtain ⟨n2, hn2⟩ : ∃ n2, q.js.length = n2 := ⟨_, rfl⟩
      rw [hn2] at hqn Hgq
      have Hl6 := hide (lost_any c mc Mc W5 HSt5.out.c)
      clear hq1 hq2 hq3 hC5 ho5 HSt4 hcs hmore hgq hidm hnd hjsl hMc Hju HC4 hn2 hy0 hy1
      go_wp2_with fail
      (with_reducible refine Hl6.out.mono ?_)
      rintro e W6 ⟨v, l6, rfl, h6n, h6P, hb6⟩
      obtain ⟨a6, c6, rfl⟩ := h6n.form
      have HSt6 := hide (HSt5.out.to hb6)
      have ho0 : (W6.alloc (Obj.cells #[.int .i64 id] 3)).ownsRow W6.heap.size 3 1 (.slice (some ⟨W6.heap.size, 0, none⟩) 1 1) 1 [.int .i64 id] := ⟨rfl, .inr ⟨W6.heap.size, 1, #[.int .i64 id], rfl, Nat.le_refl _, (MapKept.heap_alloc W6 _).1, Nat.le_refl _, by decide, rfl, rfl⟩⟩
      have hbx : Below W6.heap.size W6 (W6.alloc (Obj.cells #[.int .i64 id] 3)) := ((Only.refl [] W6).alloc _).below
      have hsrc := (HSt6.out.was.below hbx).src
      have Ho0 := hide ho0
      have Hsrc := hide hsrc
      have Hbx := hide hbx
      have H6n := hide h6n
      have H6P := hide (show LostOf Mc l6 from h6P)
      obtain ⟨i0, hi0, hz0, hz1, hz2⟩ := int_parts
      have Hi0 := hide hi0
      have Hz0 := hide hz0
      have Hz1 := hide hz1
      have Hz2 := hide hz2
      have hsz6 : W6.heap.size ≤ (W6.alloc (Obj.cells #[.int .i64 id] 3)).heap.size := by simp
      have hone : ∀ u ∈ was.map (Value.int .i64), u.oneCell' = true := by
        intro u hu
        obtain ⟨z, _, rfl⟩ := List.mem_map.1 hu
        rfl
      clear h6n h6P hb6 ho0 hsrc hbx hi0 hz0 hz1 hz2 Hl6 HSt5
      go_wp2_with (at_builtin; refine wpList_append_any _ rfl (.tmp 44) (.tmp 45) _ rfl W6.heap.size 3 i0 (.int .i64 0) 1 8 Try.underlying36 Hi0.out Hz0.out Hz1.out Hz2.out rfl (by decide) (.slice (some ⟨W6.heap.size, 0, none⟩) 1 1) 1 [.int .i64 id] rfl Ho0.out (.slice wa was.length wc) was.length (was.map (.int .i64)) rfl Hsrc.out hone (by unfold maxLen; omega) (by omega) hsz6 ?_; intro v7 W7 hown7 hg7; rw [Nat.add_comm 1 was.length] at hown7; obtain ⟨a7, c7, rfl⟩ := row_form hown7)
      have hb7 : Below W6.heap.size W6 W7 := Hbx.out.grown hg7 hsz6 (fun k e => by simp only [Value.ownBlock, Option.some.injEq] at e; omega)
      have hn7 : NIs W7 (.slice a7 (was.length + 1) c7) (id :: was) := NIs.of_row (l := id :: was) (B := W6.heap.size) (by simp only [List.length_cons]; omega) hown7
      have HSt7 := hide (HSt6.out.to hb7)
      have ham := among_any _ _ l6 (id :: was) W7 (H6n.out.below hb7) hn7
      rw [Hmore.out l6 H6P.out] at ham
      have Ham := hide ham
      clear hb7 hn7 ham hown7 hg7 Ho0 Hsrc Hbx hsz6 HSt6 H6n H6P
      (with_reducible refine Ham.out.mono ?_)
      rintro e W8 ⟨rfl, hb8⟩
      have HSt8 := hide (HSt7.out.to hb8)
      have hof := fun V (h : BookIs V c mc Mc) => of_any c mc Mc id V h (by have := Hjsl.out id; omega)
      have Hof := hide hof
      have hof8 := hof W8 HSt8.out.c
      have Hof8 := hide hof8
      clear hb8 Ham HSt7 hof hof8
      rcases hqn with ⟨rfl, rfl⟩ | ⟨rfl, rfl⟩
      all_goals
        go_wp2_with fail
        (with_reducible refine Hof8.out.mono ?_)
        rintro e W9 ⟨v, L2, rfl, hoL, hLp, _, hb9⟩
        obtain ⟨oa9, oc9, rfl⟩ := hoL.form
        have hLl : L2.length = (getD Mc id).js.length := by
          have h1 := hLp.length_eq
          rwa [List.length_map, List.length_map] at h1
        rw [Hgq.out] at hLl
        rw [hLl]
        have HSt9 := hide (HSt8.out.to hb9)
        have Hof9 := hide (Hof.out W9 HSt9.out.c)
        clear hoL hLp hb9 hLl Hof8 HSt8
        have hne2 : (((had + 1 : Nat) : Int) != (had : Int)) = true := by rw [bne_iff_ne]; omega
        have hne3 : ((had : Int) != (had : Int) + 1) = true := by rw [bne_iff_ne]; omega
        go_wp2_with fail
        (with_reducible refine Hof9.out.mono ?_)
        rintro e W10 ⟨v, L3, rfl, hoL, hLp, _, hb10⟩
        obtain ⟨oa10, oc10, rfl⟩ := hoL.form
        have hLl : L3.length = (getD Mc id).js.length := by
          have h1 := hLp.length_eq
          rwa [List.length_map, List.length_map] at h1
        rw [Hgq.out] at hLl
        rw [hLl]
        have HSt10 := hide (HSt9.out.to hb10)
        clear hoL hLp hb10 hLl Hof9 HSt9 Hof
        have Hcp := hide (copy_any c mc Mc W10 HSt10.out.c)
        go_wp2_with fail
        (with_reducible refine Hcp.out.mono ?_)
        rintro e W11 ⟨d, md, rfl, hD, hb11, hdb, hmdb⟩
        have hlt10b := HSt10.out.b.map.lt
        have hlt10c := HSt10.out.c.map.lt
        have hz10 := HSt10.out.below.size
        have HSt11 := hide (HSt10.out.to hb11)
        have hpl := plain_any d md Mc id W11 hD hwf (by omega)
        have HD := hide hD
        have Hpl := hide hpl
        clear hD hb11 hpl Hcp HSt10
        go_wp2_with fail
        (with_reducible refine Hpl.out.mono ?_)
        rintro e W12 ⟨rfl, hD, ho12⟩
        have HSt12 := hide (HSt11.out.other HD.out (by omega) (by omega) (by omega) ho12)
        have hip : (getD (putS Mc ⟨id, true, (getD Mc id).js, (getD Mc id).v⟩) id).plain = true := by rw [getD_put, if_pos rfl]
        have hdm : id ∈ (putS Mc ⟨id, true, (getD Mc id).js, (getD Mc id).v⟩).map Sp.id := (mem_put_ids _ _ _).2 (.inr rfl)
        have hmp := fun (x y : List Int) h1 h2 => more_plain (M := Mc) (id := id) (v := (getD Mc id).v) (was := x) (now := y) Hidm.out h1 h2
        have hpn := fun (now : List Int) (h2 : LostOf (putS Mc ⟨id, true, (getD Mc id).js, (getD Mc id).v⟩) now) (x : Int) (hx : x ∈ now) => plain_not_lost h2 hx
        have hdl : (putS Mc ⟨id, true, (getD Mc id).js, (getD Mc id).v⟩).length < 2000 := by have := putS_length Mc ⟨id, true, (getD Mc id).js, (getD Mc id).v⟩; omega
        obtain ⟨Md, hMd⟩ : ∃ Md, putS Mc ⟨id, true, (getD Mc id).js, (getD Mc id).v⟩ = Md := ⟨_, rfl⟩
        rw [hMd] at hD hip hdm hdl
        simp only [hMd] at hmp hpn
        have HD := hide hD
        have Hip := hide hip
        have Hdm := hide hdm
        have Hmp := hide hmp
        have Hpn := hide hpn
        have Hl13 := hide (lost_any d md Md W12 hD)
        clear hD ho12 hip hdm hmp hpn hMd Hpl HSt11
        go_wp2_with fail
        (with_reducible refine Hl13.out.mono ?_)
        rintro e W13 ⟨v, l13, rfl, h13n, h13P, hb13⟩
        obtain ⟨a13, c13, rfl⟩ := h13n.form
        have HSt13 := hide (HSt12.out.to hb13)
        have HD13 := hide (HD.out.below hb13)
        have H13n := hide h13n
        have H13P : Hid (LostOf Md l13) := hide h13P
        have Hl14 := hide (lost_any c mc Mc W13 HSt13.out.c)
        clear h13n h13P hb13 HD Hl13 HSt12
        go_wp2_with fail
        (with_reducible refine Hl14.out.mono ?_)
        rintro e W14 ⟨v, l14, rfl, h14n, h14P, hb14⟩
        obtain ⟨a14, c14, rfl⟩ := h14n.form
        have HSt14 := hide (HSt13.out.to hb14)
        have HD14 := hide (HD13.out.below hb14)
        have ham := among_any _ _ l13 l14 W14 (H13n.out.below hb14) h14n
        rw [Hmp.out l14 l13 h14P H13P.out] at ham
        have Ham := hide ham
        clear h14n h14P hb14 ham HD13 Hl14 HSt13 H13n H13P
        go_wp2_with fail
        (with_reducible refine Ham.out.mono ?_)
        rintro e W15 ⟨rfl, hb15⟩
        have HSt15 := hide (HSt14.out.to hb15)
        have HD15 := hide (HD14.out.below hb15)
        have hip15 := isPlain_any d md Md id W15 HD15.out
        rw [Hip.out] at hip15
        have Hip15 := hide hip15
        clear hb15 Ham HSt14 HD14 hip15
        go_wp2_with fail
        (with_reducible refine Hip15.out.mono ?_)
        rintro e W16 ⟨rfl, rfl⟩
        have hb16 : Below W15.heap.size W15 (W15.alloc (Obj.cells #[.int .i64 id] 3)) := ((Only.refl [] W15).alloc _).below
        have hn16 := nis1 (MapKept.heap_alloc W15 (Obj.cells #[.int .i64 id] 3)).1
        have HSt16 := hide (HSt15.out.to hb16)
        have HD16 := hide (HD15.out.below hb16)
        have Hn16 := hide hn16
        have Hf16 := hide (facts_any d md Md _ HD16.out)
        clear hb16 hn16 Hip15 HSt15 HD15
        go_wp2_with fail
        (with_reducible refine Hf16.out.mono ?_)
        rintro e W17 ⟨v, rfl, hrow, hb17⟩
        have hn17 := NIs.of_row (l := idsS Md) (by have := (rise_perm (Md.map Sp.id)).length_eq; unfold idsS; rw [this, List.length_map]; omega) hrow
        obtain ⟨a17, c17, rfl⟩ := row_form hrow
        have HSt17 := hide (HSt16.out.to hb17)
        have HD17 := hide (HD16.out.below hb17)
        have ham := among_any _ _ [id] (idsS Md) W17 (Hn16.out.below hb17) hn17
        rw [amongB_true (fun x hx => by rw [List.mem_singleton.1 hx]; exact mem_ids.2 Hdm.out)] at ham
        have Ham := hide ham
        clear hrow hb17 hn17 ham Hf16 HSt16 HD16 Hn16
        go_wp2_with fail
        (with_reducible refine Ham.out.mono ?_)
        rintro e W18 ⟨rfl, hb18⟩
        have HSt18 := hide (HSt17.out.to hb18)
        have HD18 := hide (HD17.out.below hb18)
        have Hl19 := hide (lost_any d md Md W18 HD18.out)
        clear hb18 Ham HSt17 HD17
        go_wp2_with fail
        (with_reducible refine Hl19.out.mono ?_)
        rintro e W19 ⟨v, l19, rfl, h19n, h19P, hb19⟩
        obtain ⟨a19, c19, rfl⟩ := h19n.form
        have h19l := h19n.1
        have HSt19 := hide (HSt18.out.to hb19)
        have H19n := hide h19n
        have H19P : Hid (∀ x ∈ l19, x ≠ id) := hide (Hpn.out l19 h19P)
        clear h19n h19P hb19 Hl19 HSt18 HD18
        go_wp2_with fail
        go_loopw [14, 101] (fun _ vi wr => ∃ k : Nat, k ≤ l19.length ∧ vi = .int .i64 k ∧ Hid (W19 = wr)) (fun _ vi _ => l19.length - (intOf vi).toNat)
        case atStart => exact ⟨0, Nat.zero_le _, rfl, rfl⟩
        case round =>
          obtain ⟨k, hk, rfl, hq⟩ := hrel
          obtain rfl := hq.out
          by_cases hlk : k < l19.length
          · obtain ⟨ga, off, cap, e, c0⟩ := nis_at H19n.out hlk
            injection e with e1 e2 e3
            subst e1 e3
            clear e2
            have hnid := H19P.out _ (List.getElem_mem hlk)
            obtain ⟨z, hz⟩ : ∃ z, l19[k] = z := ⟨_, rfl⟩
            rw [hz] at c0 hnid
            have hnb : (z == id) = false := by simpa using hnid
            clear hz
            go_wp2
            go_roundw
            case rel => exact ⟨k + 1, by omega, by go_num, by trivial⟩
            case measure => simp [intOf]; omega
          · obtain rfl : k = l19.length := by omega
            have Hl20 := hide (lost_any c mc Mc W19 HSt19.out.c)
            clear hq
            go_wp2_with fail
            (with_reducible refine Hl20.out.mono ?_)
            rintro e W20 ⟨v, l20, rfl, h20n, h20P, hb20⟩
            obtain ⟨a20, c20, rfl⟩ := h20n.form
            have HSt20 := hide (HSt19.out.to hb20)
            have H20n := hide h20n
            have H20P : Hid (LostOf Mc l20) := hide h20P
            have hy0 := (KeepsCells.below HSt20.out.below) _ _ Hx0.out.1
            have hy1 := (KeepsCells.below HSt20.out.below) _ _ Hx0.out.2
            have hwd := withdraw_any c mc Mc J W20 HSt20.out.c (HJn.out _ (HjI.out.below HSt20.out.below)) (by omega) Hnd.out (fun x => by have := Hjsl.out x; omega)
            rw [HJv.out] at hwd
            have Hwd := hide hwd
            clear h20n h20P hb20 hwd Hl20 HSt19
            go_wp2_with fail
            (with_reducible refine Hwd.out.mono ?_)
            rintro e W21 ⟨v, rfl, _, ⟨M4, hC4, hwd4⟩, ho21⟩
            have HSt21 := hide (HSt20.out.turn hC4 hne1 (by omega) ho21)
            have H20n' := hide (H20n.out.keeps (KeepsCells.map HSt20.out.c.map ho21))
            have Hwd4 := hide hwd4
            have Hl22 := hide (lost_any c mc M4 W21 hC4)
            clear hC4 hwd4 ho21 Hwd HSt20 H20n hy0 hy1
            go_wp2_with fail
            (with_reducible refine Hl22.out.mono ?_)
            rintro e W22 ⟨v, l22, rfl, h22n, h22P, hb22⟩
            obtain ⟨a22, c22, rfl⟩ := h22n.form
            have HSt22 := hide (HSt21.out.to hb22)
            have ham := among_any _ _ l20 l22 W22 (H20n'.out.below hb22) h22n
            rw [more_with Hwd4.out H20P.out h22P] at ham
            have Ham := hide ham
            clear h22n h22P hb22 ham Hl22 HSt21 H20n'
            go_wp2_with fail
            (with_reducible refine Ham.out.mono ?_)
            rintro e W23 ⟨rfl, hb23⟩
            have HSt23 := hide (HSt22.out.to hb23)
            have Hl24 := hide (lost_any b mb M W23 HSt23.out.b)
            clear hb23 Ham HSt22
            go_wp2_with fail
            (with_reducible refine Hl24.out.mono ?_)
            rintro e W24 ⟨v, l24, rfl, h24n, h24P, hb24⟩
            obtain ⟨a24, c24, rfl⟩ := h24n.form
            obtain rfl : l24 = was := LostOf.eq h24P HwP.out
            have HSt24 := hide (HSt23.out.to hb24)
            have hr := rows_any _ _ l24 l24 W24 h24n HSt24.out.was
            rw [(cmpL_zero l24 l24).2 rfl] at hr
            have Hr := hide hr
            clear h24n h24P hb24 hr Hl24 HSt23
            go_wp2_with fail
            (with_reducible refine Hr.out.mono ?_)
            rintro e W25 ⟨rfl, hb25⟩
            have HSt25 := hide (HSt24.out.to hb25)
            clear hb25 Hr HSt24
            go_wp2_with (go_at_call 25; refine (known29_walk _).mono ?_; rintro e w' ⟨rfl, hk⟩)
            go_ret
            exact ⟨rfl, Hb0.out.trans ((HSt25.out.below.trans (hk.mono HSt25.out.below.size)).mono hle0)⟩
end Go.Proofs.Ytmcajoccfbebiaa
