/- witanref29's Book: the walk of Justify. -/
import Derived.Test.YtmcajoccfbebiaaRT8
namespace Go.Proofs.Ytmcajoccfbebiaa
open Go Go.RowKit Go.MapKept Go.Sort

theorem own_empty1 {V : World} {X B : Nat} {t : TypeId} (s : Nat) (h : V.heap[X]? = some (.cells #[] t (0, 0))) (hB : B ≤ X) : V.ownsRow B t s (.slice (some ⟨X, 0, none⟩) 0 0) 0 [] := ⟨by simp, .inr ⟨X, 0, #[], rfl, hB, h, Nat.le_refl _, by omega, by simp, by simp⟩⟩
theorem NIs.srcN {w : World} {x : Value} {l : List Int} (h : NIs w x l) : SrcN w 1 x l.length (l.map (Value.int .i64)) := by
  obtain ⟨_, ⟨b, off, cap, rfl, hi⟩ | ⟨rfl, rfl | ⟨a, cap, rfl⟩⟩⟩ := h
  · refine .inr ⟨_, _, rfl, by simp, fun j u hu => ?_⟩
    obtain ⟨hj, e⟩ := List.getElem?_eq_some_iff.1 hu
    rw [List.getElem_map] at e
    rw [Addr.add_lit, ← e]
    exact hi j (by simpa using hj)
  · exact .inl ⟨rfl, rfl, rfl⟩
  · exact .inr ⟨a, cap, rfl, rfl, by simp⟩
theorem size_just (w : World) : (sizeOf (Try.prog.elem 60)).run Try.prog w = .ok 2 w := by kernel_rfl
theorem under_just : Try.prog.underlying 60 = some (.slice (Try.prog.elem 60)) := by kernel_rfl

/-- What a fact's justifications say, one more told. -/
def justR (js : List Jc) (J : Jc) : List (Int × List Int) := js.map Jc.co ++ (if js.any fun x => x.same J then [] else [J.co])
theorem justR_yes {js : List Jc} {J : Jc} (h : (js.any fun x => x.same J) = true) : justR js J = js.map Jc.co := by unfold justR; rw [h]; simp
theorem justR_no {js : List Jc} {J : Jc} (h : (js.any fun x => x.same J) = false) : justR js J = js.map Jc.co ++ [J.co] := by unfold justR; rw [h]; simp
set_option maxRecDepth 100000 in
set_option maxHeartbeats 16000000 in
theorem rjustify_any (B r : Nat) (v : Value) (L : List Sp) (id : Int) (J : Jc) (w : World) (h : RefB B w r v L) (hj : NIs w J.x J.tup) (hl : L.length < 900) (hjl : (getD L id).js.length < 900) :
    Calls Try.prog 71 #[.pointer (some ⟨r, 0, none⟩), .int .i64 id, J.val] w fun e w' => e = .returned (.bool (!((getD L id).js.any fun x => x.same J))) ∧
      (∃ v' L' q, RefB B w' r v' L' ∧ RPut L L' q ∧ q.id = id ∧ q.plain = (getD L id).plain ∧ (q.js.map Jc.co).Perm (justR (getD L id).js J) ∧
        ((getD L id).js.Pairwise (fun a b => cmpJ a b ≤ 0) → q.js.Pairwise (fun a b => cmpJ a b ≤ 0)) ∧ (∀ A : Nat → Prop, (∀ k, w.heap.size ≤ k → A k) → AvV A v → AvB A L → AvV A v' ∧ AvB A L')) ∧ ROnly B r w w' := by
  have hB := h.hB
  have hrlt := lt_of_heap h.blk
  have hasc := h.asc
  obtain ⟨jr, jt, jx⟩ := J
  simp only at hj
  obtain ⟨ja, jc, rfl⟩ := hj.form
  have hjlen := hj.1
  obtain ⟨W0, hW0⟩ : ∃ W0, w.alloc (Obj.cells #[.int .i64 jr, .slice ja jt.length jc] 53) = W0 := ⟨_, rfl⟩
  have hb0 : Below w.heap.size w W0 := by rw [← hW0]; exact ((Only.refl [] w).alloc _).below
  have hx0 := heap_alloc0 w (Obj.cells #[.int .i64 jr, .slice ja jt.length jc] 53)
  have hz0 : W0.heap.size = w.heap.size + 1 := by rw [← hW0]; simp
  rw [hW0] at hx0
  have Hrow := hide (rrow_any B r v L id W0 (h.below hb0) hl)
  have HW0 := hide hW0
  have Hb0 := hide hb0
  have Hx0 := hide hx0
  have Hj := hide (hj.below hb0)
  have Hasc := hide hasc
  have HAv0 : Hid (∀ A : Nat → Prop, AvB A L → AvS A (getD L id)) := hide fun A hA => hA.getD id
  obtain ⟨va0, vc0, hv0⟩ := h.form
  have Hblk : Hid (∃ va vc, W0.heap[r]? = some (.cells #[.slice va L.length vc] 70 (0, 0))) := hide ⟨va0, vc0, by rw [← hv0]; exact (h.below hb0).blk⟩
  have hJv : (⟨jr, jt, .slice ja jt.length jc⟩ : Jc).val = .agg #[.int .i64 jr, .slice ja jt.length jc] := rfl
  rw [hJv]
  have hgid := getD_id L id
  obtain ⟨G, hGe⟩ : ∃ G, getD L id = G := ⟨_, rfl⟩
  rw [hGe] at hjl HAv0 hgid ⊢
  obtain ⟨pid, pp, js, pv⟩ := G
  simp only at hjl hgid ⊢
  subst hgid
  have HGe := hide hGe
  have hw0 : w.heap.size < W0.heap.size := by omega
  have hrw : r < W0.heap.size := by omega
  clear h hj hb0 hx0 hz0 hW0 hasc hJv hv0 hGe
  go_enter Try.func71, Try.ntmps71
  go_upto_region 1 with fail
  rw [HW0.out]
  go_wp2_with fail
  (with_reducible refine Hrow.out.mono ?_)
  rintro e W ⟨k, rfl, v1, L1, hR, ho, ⟨hk, hid⟩, hor, hav⟩
  obtain ⟨_, _, hbk⟩ := Hblk.out
  have hRO : ROnly B r W0 W := ROnly.of_only hbk (fun z q => by cases q) ho
  have HRO := hide hRO
  have HjW := hide (Hj.out.ronly hRO)
  have hxW := (ho.block w.heap.size hw0 (by simp only [List.mem_singleton]; omega)).trans Hx0.out
  obtain ⟨hput, hge⟩ := RPut.row Hasc.out hR.asc hk hid hor (q := L1[k]) hid
  rw [List.set_getElem_self] at hput
  have hput2 := fun q hq => (RPut.row Hasc.out hR.asc hk hid hor (q := q) hq).1
  obtain ⟨g, c, e, _, _, d2⟩ := hR.at hk
  subst e
  have hjs := hR.js _ (List.getElem_mem hk)
  have hset := fun (V : World) (hV : Below W.heap.size W V) (js : List Jc) (x : Value) hh => (hR.below hV).setJs hk (js := js) (v := x) hh
  have HAv : Hid (∀ A : Nat → Prop, (∀ k, w.heap.size ≤ k → A k) → AvV A v → AvB A L → AvV A (.slice (some ⟨g, 0, none⟩) L1.length c) ∧ AvB A L1) := hide fun A hA h1 h2 => ⟨hav A (fun k hk => hA k (by omega)) h1, by
    rcases hor with rfl | ⟨rfl, _⟩
    · exact h2
    · intro p hp
      unfold insR at hp
      simp only [List.mem_append, List.mem_singleton] at hp
      rcases hp with (hp | rfl) | hp
      · exact h2 p (List.mem_of_mem_take hp)
      · exact AvS.nil A _ false
      · exact h2 p (List.mem_of_mem_drop hp)⟩
  have c0 := (cells1b hR.blk).1
  have hL1 := hR.len
  have hgl := lt_of_cell d2
  have hRb := fun V (hV : Below W.heap.size W V) => hR.below hV
  rw [HGe.out] at hge
  have HR := hide hR
  rw [hge] at hput d2 hjs
  simp only [hge] at hset
  simp only at d2 hjs
  obtain ⟨pa, pc, rfl⟩ := hjs.2.form
  have Hcell : Hid (∀ V, Below W.heap.size W V → V.cell? ⟨r, 0, none⟩ = some (.slice (some ⟨g, 0, none⟩) L1.length c) ∧ V.cell? ⟨g, k * 3 + 2, none⟩ = some (.slice pa js.length pc) ∧ V.cell? ⟨w.heap.size, 0, none⟩ = some (.int .i64 jr) ∧ V.cell? ⟨w.heap.size, 1, none⟩ = some (.slice ja jt.length jc) ∧ V.frozen? ⟨g, k * 3 + 2, none⟩ = false) := hide fun V hV => by
    obtain ⟨x0, x1, _⟩ := cells2e ((hV.block w.heap.size (lt_of_heap hxW)).trans hxW)
    obtain ⟨cs, hgb⟩ := (hRb V hV).blkrow
    refine ⟨(hV.cell (lt_of_cell c0)).trans c0, (hV.cell (lt_of_cell d2)).trans d2, x0, x1, by simp [World.frozen?, hgb]⟩
  have Hjs := hide hjs
  have Hput := hide hput
  have Hput2 := hide hput2
  have Hset := hide hset
  have hk0 : (0 : Int) ≤ (k : Int) := by omega
  have hWB : B ≤ W.heap.size := by have := ho.size; omega
  have hwW : w.heap.size ≤ W.heap.size := by have := ho.size; omega
  have HOW : Hid (ROnly B r w W) := hide ((ROnly.of_below Hb0.out).trans hRO)
  clear hR ho hor hav hbk hRO hxW hput hput2 hge d2 hjs hset c0 hRb hid Hrow Hblk Hj Hx0 hgl HRO
  obtain ⟨c0, d2, x0, x1, df⟩ := Hcell.out W (Below.refl _ _)
  go_wp2_with fail
  go_loopw [9, 10] (fun va vi wr => ∃ (q a : Nat), q ≤ js.length ∧ a ≤ q ∧ va = .int .i64 a ∧ vi = .int .i64 q ∧ Hid (RPos js ⟨jr, jt, .slice ja jt.length jc⟩ q a ∧ Below W.heap.size W wr)) (fun _ vi _ => js.length - (intOf vi).toNat)
  case atStart => exact ⟨0, 0, Nat.zero_le _, Nat.le_refl _, rfl, rfl, RPos.zero _ _, Below.refl _ _⟩
  case round =>
    obtain ⟨q, a, hq, haq, rfl, rfl, hrel⟩ := hrel
    obtain ⟨hpos, hbr⟩ := hrel.out
    clear c0 d2 x0 x1 df
    obtain ⟨c0, d2, x0, x1, df⟩ := Hcell.out wr hbr
    have Hpos := hide hpos
    have Hbr := hide hbr
    by_cases hlq : q < js.length
    · have hJ := ((Hjs.out.2.below hbr).js (by omega))
      obtain ⟨bb, off, cap, xa, xc, e, hx, e0, e1⟩ := hJ.at hlq
      injection e with f1 f2 f3
      subst f1 f3
      clear f2
      have hn := hJ.tups _ (List.getElem_mem hlq)
      have hle : hpos.less hlq = hpos.less hlq := rfl
      have hless := hpos.less hlq
      have hmore := hpos.more hlq
      have hany : js[q].same ⟨jr, jt, .slice ja jt.length jc⟩ = true → (js.any fun x => x.same ⟨jr, jt, .slice ja jt.length jc⟩) = true := fun e => List.any_eq_true.2 ⟨js[q], List.getElem_mem hlq, e⟩
      obtain ⟨Z, hz⟩ : ∃ Z, js[q] = Z := ⟨_, rfl⟩
      rw [hz] at hx e0 e1 hn hless hmore hany
      obtain ⟨zr, zt, zx⟩ := Z
      simp only at hx e0 e1 hn
      subst hx
      rw [cmpJ_lt] at hless hmore
      simp only at hless hmore
      have hzl := hn.1
      obtain ⟨W1, hW1⟩ : ∃ W1, wr.alloc (Obj.cells #[.int .i64 zr, .slice xa zt.length xc] 53) = W1 := ⟨_, rfl⟩
      have hb1 : Below wr.heap.size wr W1 := by rw [← hW1]; exact ((Only.refl [] wr).alloc _).below
      have hbx := heap_alloc0 wr (Obj.cells #[.int .i64 zr, .slice xa zt.length xc] 53)
      rw [hW1] at hbx
      have hbW1 : Below W.heap.size W W1 := hbr.trans (hb1.mono hbr.size)
      have hs := rsame29_any ⟨zr, zt, .slice xa zt.length xc⟩ ⟨jr, jt, .slice ja jt.length jc⟩ W1 (hn.below hb1) ((HjW.out.below hbr).below hb1)
      unfold Jc.val at hs
      simp only at hs
      have Hs := hide hs
      have HW1 := hide hW1
      have HbW1 := hide hbW1
      have Hbx := hide hbx
      have Hn := hide (hn.below hb1)
      have Hless := hide hless
      have Hmore := hide hmore
      have Hany := hide hany
      clear hrel hpos hbr hJ hn hle hless hmore hany hz hW1 hb1 hbx hbW1 hs
      go_upto_region 8 with fail
      rw [HW1.out]
      clear c0 d2 x0 x1 df e0 e1
      obtain ⟨c0, d2, x0, x1, df⟩ := Hcell.out W1 HbW1.out
      obtain ⟨z0, z1, _⟩ := cells2e Hbx.out
      go_wp2_with fail
      (with_reducible refine Hs.out.mono ?_)
      rintro e V ⟨rfl, hbV⟩
      have HbV := hide (HbW1.out.trans (hbV.mono HbW1.out.size))
      have HzV := hide ((hbV.block _ (lt_of_heap Hbx.out)).trans Hbx.out)
      have HnV := hide (Hn.out.below hbV)
      have hsame : (⟨zr, zt, .slice xa zt.length xc⟩ : Jc).same ⟨jr, jt, .slice ja jt.length jc⟩ = decide (zr = jr ∧ zt = jt) := rfl
      obtain ⟨sm, hsm⟩ : ∃ sm, decide (zr = jr ∧ zt = jt) = sm := ⟨_, rfl⟩
      rw [hsm] at hsame ⊢
      have Hsame := hide hsame
      have Hsm := hide hsm
      clear hbV hsame hsm Hs c0 d2 x0 x1 df z0 z1
      obtain ⟨c0, d2, x0, x1, df⟩ := Hcell.out V HbV.out
      obtain ⟨z0, z1, _⟩ := cells2e HzV.out
      cases sm
      · -- another one
        have Hr := hide (rows_any _ _ zt jt V HnV.out (HjW.out.below HbV.out))
        have Hnx : Hid (∀ V', Below V.heap.size V V' → Below W.heap.size W V') := hide fun V' hV' => HbV.out.trans (hV'.mono HbV.out.size)
        rcases Int.lt_trichotomy zr jr with h1 | h1 | h1
        · have HF := hide (Hless.out Hsame.out (.inl h1))
          clear Hless Hmore
          go_wp2
          go_roundw
          case rel => exact ⟨q + 1, q + 1, by omega, Nat.le_refl _, by go_num, by go_num, HF.out, HbV.out⟩
          case measure => simp [intOf]; omega
        · subst h1
          have hno : ¬ zr < zr := Int.lt_irrefl zr
          go_wp2_with fail
          (with_reducible refine Hr.out.mono ?_)
          rintro e V2 ⟨rfl, hb2⟩
          have HbV2 := hide (Hnx.out V2 hb2)
          obtain ⟨cv, hcv⟩ : ∃ cv, cmpL zt jt = cv := ⟨_, rfl⟩
          rw [hcv] at Hless Hmore ⊢
          by_cases h2 : cv < 0
          · have HF := hide (Hless.out Hsame.out (.inr ⟨trivial, h2⟩))
            clear Hless Hmore hb2 hcv
            go_wp2
            go_roundw
            case rel => exact ⟨q + 1, q + 1, by omega, Nat.le_refl _, by go_num, by go_num, HF.out, HbV2.out⟩
            case measure => simp [intOf]; omega
          · have HF := hide (Hmore.out Hsame.out (by rintro (h | h); exact Int.lt_irrefl _ h; exact h2 h.2))
            clear Hless Hmore hb2 hcv
            go_wp2
            go_roundw
            case rel => exact ⟨q + 1, a, by omega, by omega, by go_num, by go_num, HF.out, HbV2.out⟩
            case measure => simp [intOf]; omega
        · have hno : ¬ zr < jr := by omega
          have hne : (zr == jr) = false := by simp; omega
          have HF := hide (Hmore.out Hsame.out (by rintro (h | h); exact hno h; omega))
          clear Hless Hmore
          go_wp2
          go_roundw
          case rel => exact ⟨q + 1, a, by omega, by omega, by go_num, by go_num, HF.out, HbV.out⟩
          case measure => simp [intOf]; omega
      · have HF := hide (Hany.out Hsame.out)
        have HRV := hide (HR.out.below HbV.out)
        have HOV := hide (HOW.out.trans (ROnly.of_below HbV.out))
        clear Hless Hmore
        go_wp2
        go_ret
        exact ⟨by rw [HF.out]; rfl, ⟨_, L1, ⟨pid, pp, js, _⟩, HRV.out, Hput.out, rfl, rfl, by rw [justR_yes HF.out], fun h => h, HAv.out⟩, HOV.out⟩
    · obtain rfl : q = js.length := by omega
      have hno := RPos.none hpos
      have hpm := fun x : Value => ins_perm js ⟨jr, jt, x⟩ a
      have hso : ∀ x : Value, js.Pairwise (fun a b => cmpJ a b ≤ 0) → (js.take a ++ [(⟨jr, jt, x⟩ : Jc)] ++ js.drop a).Pairwise (fun a b => cmpJ a b ≤ 0) := fun x hp => ins_sorted (J := ⟨jr, jt, x⟩) hp haq hpos.lo (fun k hk h1 => hpos.hi k hk h1 hk)
      obtain ⟨i0, hi0, hy0, hy1, hy2⟩ := jinfo_parts
      obtain ⟨i1, hi1, hu0, hu1, hu2⟩ := int_parts
      have hofr := Hjs.out.2
      obtain ⟨hcut1, hsrc1⟩ := cut_upto under_just hofr.own haq
      obtain ⟨ya, yc, hcut2, hsrc2⟩ := cut_from under_just hofr.own haq
      have hrun1 := fun wx => hcut1 wx 2 (size_just wx)
      have hrun2 := fun wx => hcut2 wx (size_just wx)
      have hone1 : ∀ u ∈ jflat (js.take a), u.oneCell' = true := fun u hu => ofis_one hofr u (List.mem_of_mem_take (i := a * 2) (by rw [jflat_take]; exact hu))
      have hone2 : ∀ u ∈ jflat (js.drop a), u.oneCell' = true := fun u hu => ofis_one hofr u (List.mem_of_mem_drop (i := a * 2) (by rw [jflat_drop]; exact hu))
      rw [jflat_take] at hsrc1
      rw [jflat_drop] at hsrc2
      have htT : ∀ j ∈ js.take a, j ∈ js := fun j hj => List.mem_of_mem_take hj
      have htD : ∀ j ∈ js.drop a, j ∈ js := fun j hj => List.mem_of_mem_drop hj
      have hT : (js.take a).length = a := by rw [List.length_take]; omega
      have hD : (js.drop a).length = js.length - a := by rw [List.length_drop]
      obtain ⟨T, hTe⟩ : ∃ T, js.take a = T := ⟨_, rfl⟩
      obtain ⟨D, hDe⟩ : ∃ D, js.drop a = D := ⟨_, rfl⟩
      rw [hTe] at hsrc1 hone1 htT hT
      rw [hDe] at hsrc2 hone2 htD hD
      simp only [hTe, hDe] at hpm hso
      have Hi0 := hide hi0
      have Hy0 := hide hy0
      have Hy1 := hide hy1
      have Hy2 := hide hy2
      have Hi1 := hide hi1
      have Hu0 := hide hu0
      have Hu1 := hide hu1
      have Hu2 := hide hu2
      have Hno := hide hno
      have Hpm := hide hpm
      have Hso := hide hso
      have Hofr := hide hofr
      have Hsrc1 : Hid (SrcN W 2 (.slice pa a pc) a (jflat T)) := hide hsrc1
      have Hsrc2 : Hid (SrcN W 2 (.slice ya (js.length - a) yc) (js.length - a) (jflat D)) := hide hsrc2
      have Hone1 := hide hone1
      have Hone2 := hide hone2
      have HtT := hide htT
      have HtD := hide htD
      have HT := hide hT
      have HD := hide hD
      have HjSrc : Hid (∀ V, Below W.heap.size W V → SrcN V 1 (.slice ja jt.length jc) jt.length (jt.map (Value.int .i64))) := hide fun V hV => ((HjW.out.below hV).srcN)
      have Hone3 : Hid (∀ u ∈ jt.map (Value.int .i64), u.oneCell' = true) := hide fun u hu => by
        obtain ⟨z, _, rfl⟩ := List.mem_map.1 hu
        rfl
      have hzr : W.heap.size ≤ wr.heap.size := hbr.size
      have hsum : a + 1 + (js.length - a) = js.length + 1 := by omega
      have Hsum := hide hsum
      have hal : a ≤ 900 := by omega
      have hdl : js.length - a ≤ 900 := by omega
      clear hrel hpos hbr hno hpm hso hi0 hy0 hy1 hy2 hi1 hu0 hu1 hu2 hofr hcut1 hcut2 hsrc1 hsrc2 hone1 hone2 htT htD hT hD hTe hDe hsum
      go_upto_region 13 with (at_builtin; refine wpList_append_any _ rfl (.tmp 64) (.tmp 74) _ rfl wr.heap.size 53 i0 (.agg #[.int .i64 0, .slice none 0 0]) 2 32 Try.underlying60 Hi0.out Hy0.out Hy1.out Hy2.out rfl (by decide) (.slice none 0 0) 0 [] rfl (World.ownsRow_nil _ _ _ _) (.slice pa a pc) a (jflat T) rfl (Hsrc1.out.keeps (KeepsCells.below Hbr.out)) Hone1.out (by unfold maxLen; omega) (by omega) (Nat.le_refl _) ?_; intro v2 X1 ho1 hg1; simp only [Nat.zero_add, List.nil_append] at ho1; obtain ⟨oa, oc, rfl⟩ := row_form ho1; have HX1 := hide (Hbr.out.trans (((Below.refl wr.heap.size wr).grown hg1 (Nat.le_refl _) (fun k e => by cases e)).mono hzr)); have Ho1 := hide ho1; have HG1 := hide hg1; clear ho1 hg1)
      have hof1 : OfIs B X1 (.slice oa a oc) T := by
        have h1 := OfIs.more (L := []) (M := T) (v := .slice none 0 0) (v' := .slice oa a oc) (OfIs.nil B wr) (fun j hj => ⟨(Hofr.out.tups j (HtT.out j hj)).1, owns_below (Hofr.out.tups j (HtT.out j hj)).2 Hbr.out⟩) (by rw [HT.out, List.length_nil, Nat.zero_add]; exact owns_base Ho1.out (by omega)) HG1.out
        simpa using h1
      have Hof1 := hide hof1
      have hz1 : W.heap.size ≤ X1.heap.size := HX1.out.size
      have hz1r : wr.heap.size ≤ X1.heap.size := HG1.out.size
      clear hof1 c0 d2 x0 x1 df Hsrc1
      obtain ⟨c0, d2, x0, x1, df⟩ := Hcell.out X1 HX1.out
      have hbd : Below W.heap.size W X1.drew := HX1.out.trans ((Only.drew (Only.refl [] X1)).below.mono hz1)
      have hbe : Below X1.heap.size X1 (X1.drew.alloc (Obj.cells #[] 3)) := ((Only.drew (Only.refl [] X1)).alloc _).below
      have Hsj := hide (HjSrc.out _ (HX1.out.trans (hbe.mono hz1)))
      have He0 := hide (own_empty1 (B := X1.heap.size) 1 (heap_alloc0 X1.drew (Obj.cells #[] 3)) (Nat.le_refl _))
      have Hbe := hide hbe
      have hszA : X1.heap.size ≤ (X1.alloc (Obj.cells #[] 3)).drew.heap.size := by show X1.heap.size ≤ (X1.alloc _).heap.size; simp
      clear hbd hbe
      go_wp2_with fail
      go_region_held3 (fun V => V.cell? ⟨w.heap.size, 0, none⟩ = some (.int .i64 jr) ∧ V.cell? ⟨w.heap.size, 1, none⟩ = some (.slice ja jt.length jc)) (go_keep)
        (first
          | (refine step_append_any rfl (.tmp 79) (.tmp 81) 36 rfl X1.heap.size 3 i1 (.int .i64 0) 1 8 Try.underlying36 Hi1.out Hu0.out Hu1.out Hu2.out rfl (by decide) (.slice (some ⟨X1.heap.size, 0, none⟩) 0 0) 0 [] ?_ He0.out (.slice ja jt.length jc) jt.length (jt.map (.int .i64)) ?_ Hsj.out Hone3.out (by unfold maxLen; omega) (by omega) hszA ?_; (focus (first | (simp [Act.eval]; done) | rfl | (simp [Act.eval, Act.put]; done))); (focus (first | (simp [Act.eval]; done) | rfl | (simp [Act.eval, Act.put]; done))); intro v2 X2 ho2 hg2; simp only [Nat.zero_add, List.nil_append] at ho2; obtain ⟨na, nc, rfl⟩ := row_form ho2; have HX2 := hide (Hbe.out.grown hg2 hszA (fun k e => by simp only [Value.ownBlock, Option.some.injEq] at e; omega)); have Ho2 := hide ho2; have hz2 : X1.heap.size ≤ X2.heap.size := HX2.out.size; obtain ⟨_, _, y0, y1, _⟩ := Hcell.out X2 (HX1.out.trans (HX2.out.mono hz1)); clear ho2 hg2)
          | (refine step_append_any rfl (.tmp 76) (.tmp 84) 60 rfl wr.heap.size 53 i0 (.agg #[.int .i64 0, .slice none 0 0]) 2 32 Try.underlying60 Hi0.out Hy0.out Hy1.out Hy2.out rfl (by decide) (.slice oa a oc) a (jflat T) ?_ ((owns_below Ho1.out HX2.out).alloc _) (.slice (some ⟨X2.heap.size, 0, none⟩) 1 1) 1 [.int .i64 jr, .slice na jt.length nc] ?_ (.inr ⟨_, _, rfl, rfl, lit2_news (heap_alloc0 X2 _)⟩) (by simp [Value.oneCell']) (by unfold maxLen; omega) (by omega) (by simp only [World.size_alloc]; omega) ?_; (focus (first | (simp [Act.eval]; done) | rfl | (simp [Act.eval, Act.put]; done))); (focus (first | (simp [Act.eval]; done) | rfl | (simp [Act.eval, Act.put]; done))); intro v3 X3 ho3 hg3; obtain ⟨oa3, oc3, rfl⟩ := row_form ho3; have Ho3 := hide ho3; have HG3 := hide hg3; have HX3 : Hid (Below wr.heap.size X1 X3) := hide (((HX2.out.mono hz1r).alloc (by omega) _).grown hg3 (by simp only [World.size_alloc]; omega) (fun k e => row_own Ho1.out k e)); obtain ⟨_, _, u0, u1, _⟩ := Hcell.out X3 (HX1.out.trans (HX3.out.mono hzr)); clear ho3 hg3))
      have hof3 : OfIs B X3 (.slice oa3 (a + 1) oc3) (T ++ [⟨jr, jt, .slice na jt.length nc⟩]) := by
        have hb2 : Below X1.heap.size X1 (X2.alloc (Obj.cells #[.int .i64 jr, .slice na jt.length nc] 53)) := HX2.out.alloc hz2 _
        exact OfIs.more (M := [⟨jr, jt, .slice na jt.length nc⟩]) (Hof1.out.below hb2) (fun j hj => by
          simp only [List.mem_singleton] at hj
          subst hj
          exact ⟨hjlen, (owns_base Ho2.out (by omega)).alloc _⟩) (by rw [HT.out]; exact owns_base Ho3.out (by omega)) HG3.out
      have Hof3 := hide hof3
      have HX3W := hide (HX1.out.trans (HX3.out.mono hzr))
      have HX3r : wr.heap.size ≤ X3.heap.size := by have := HX3.out.size; omega
      clear hof3 y0 y1 u0 u1 c0 d2 x0 x1 df
      obtain ⟨c0, d2, x0, x1, df⟩ := Hcell.out X3 HX3W.out
      have hbD : Below X3.heap.size X3 X3.drew := (Only.drew (Only.refl [] X3)).below
      have hbDW : Below W.heap.size W X3.drew := HX3W.out.trans (hbD.mono HX3W.out.size)
      have Hsrc4 := hide (Hsrc2.out.keeps (KeepsCells.below hbDW))
      have Ho3d := hide (owns_below Ho3.out hbD)
      have HbDW := hide hbDW
      have hszD : wr.heap.size ≤ X3.drew.heap.size := HX3r
      have hszE : W.heap.size ≤ X3.drew.heap.size := HbDW.out.size
      clear hbD hbDW
      go_wp2_with fail
      go_region_law (refine step_append_any rfl (.tmp 91) (.tmp 101) 60 rfl wr.heap.size 53 i0 (.agg #[.int .i64 0, .slice none 0 0]) 2 32 Try.underlying60 Hi0.out Hy0.out Hy1.out Hy2.out rfl (by decide) (.slice oa3 (a + 1) oc3) (a + 1) (jflat T ++ [.int .i64 jr, .slice na jt.length nc]) ?_ Ho3d.out (.slice ya (js.length - a) yc) (js.length - a) (jflat D) ?_ Hsrc4.out Hone2.out (by unfold maxLen; omega) (by omega) hszD ?_; (focus (first | (simp [Act.eval]; done) | rfl | (simp [Act.eval, Act.put]; done))); (focus (first | (simp [Act.eval]; done) | rfl | (simp [Act.eval, Act.put]; done))); intro v4 X4 ho4 hg4; obtain ⟨fa, fc, rfl⟩ := row_form ho4; have Ho4 := hide ho4; have HG4 := hide hg4; have HX4 : Hid (Below W.heap.size W X4) := hide (HbDW.out.grown hg4 hszE (fun k e => by have := row_own Ho3.out k e; omega)); obtain ⟨e0, e2, _, _, ef⟩ := Hcell.out X4 HX4.out; clear ho4 hg4)
      all_goals
        have hfin := Hset.out X4 HX4.out (T ++ [⟨jr, jt, .slice na jt.length nc⟩] ++ D) (.slice fa (a + 1 + (js.length - a)) fc) ⟨by simp only [List.length_append, HT.out, HD.out, List.length_singleton]; omega, OfIs.more (w := X3.drew) (Hof3.out.below ((Only.drew (Only.refl [] X3)).below)) (fun j hj => ⟨(Hofr.out.tups j (HtD.out j hj)).1, owns_below (Hofr.out.tups j (HtD.out j hj)).2 HbDW.out⟩) (by
          have h1 := owns_base (B' := B) Ho4.out (by omega)
          rw [jflat_append]
          simp only [List.length_append, HT.out, HD.out, List.length_singleton]
          exact h1) HG4.out⟩
        have Hfin := hide hfin
        have Hq : Hid (AvS (fun k => w.heap.size ≤ k) ⟨0, pp, [⟨jr, jt, .slice na jt.length nc⟩], .slice fa (a + 1 + (js.length - a)) fc⟩) := hide ⟨AvV.own Ho4.out (fun k hk => by omega), fun j hj => by
          simp only [List.mem_singleton] at hj
          subst hj
          exact AvV.own Ho2.out (fun k hk => by omega)⟩
        have HAV : Hid (∀ A : Nat → Prop, (∀ k, w.heap.size ≤ k → A k) → AvB A L → AvS A ⟨pid, pp, T ++ [⟨jr, jt, .slice na jt.length nc⟩] ++ D, .slice fa (a + 1 + (js.length - a)) fc⟩) := hide fun A hA hL => ⟨fun x y z e => hA _ (Hq.out.1 x y z e), fun j hj => by
          rcases List.mem_append.1 hj with hj | hj
          · rcases List.mem_append.1 hj with hj | hj
            · exact (HAv0.out A hL).2 j (HtT.out j hj)
            · exact fun x y z e => hA _ (Hq.out.2 j hj x y z e)
          · exact (HAv0.out A hL).2 j (HtD.out j hj)⟩
        clear hfin
        go_wp2
        go_ret
        exact ⟨by rw [Hno.out]; rfl, ⟨_, _, _, Hfin.out.1, Hput2.out _ rfl, rfl, rfl, by rw [justR_no Hno.out]; exact Hpm.out _, Hso.out _, fun A hA h1 h2 => ⟨(HAv.out A hA h1 h2).1, fun x hx => by
          rcases List.mem_or_eq_of_mem_set hx with hx | rfl
          · exact (HAv.out A hA h1 h2).2 x hx
          · exact HAV.out A hA h2⟩⟩, (HOW.out.trans (ROnly.of_below HX4.out)).trans Hfin.out.2⟩
end Go.Proofs.Ytmcajoccfbebiaa
