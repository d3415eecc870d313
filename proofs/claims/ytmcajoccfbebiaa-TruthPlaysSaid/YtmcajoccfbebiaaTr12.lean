/- Of: a fact's justifications, in their order, in memory of their own. -/
import Derived.Test.YtmcajoccfbebiaaTr11
namespace Go.Proofs.Ytmcajoccfbebiaa
open Go Go.RowKit Go.MapKept Go.Sort

/-- A row of justifications of one's own; so are their tuples. -/
structure OfIs (B : Nat) (w : World) (v : Value) (L : List Jc) : Prop where
  own : w.ownsRow B 53 2 v L.length (jflat L)
  tups : ∀ j ∈ L, j.tup.length ≤ 1000000 ∧ w.ownsRow B 3 1 j.x j.tup.length (j.tup.map (.int .i64))
theorem OfIs.below {B : Nat} {w w' : World} {v : Value} {L : List Jc} (h : OfIs B w v L) (hb : Below w.heap.size w w') : OfIs B w' v L := ⟨owns_below h.own hb, fun j hj => ⟨(h.tups j hj).1, owns_below (h.tups j hj).2 hb⟩⟩
theorem OfIs.js {B : Nat} {w : World} {v : Value} {L : List Jc} (h : OfIs B w v L) (hl : L.length ≤ 1000000) : JsIs w v L := JsIs.of_row hl h.own (fun j hj => NIs.of_row (h.tups j hj).1 (h.tups j hj).2)
theorem OfIs.form {B : Nat} {w : World} {v : Value} {L : List Jc} (h : OfIs B w v L) : ∃ a c, v = .slice a L.length c := row_form h.own
theorem OfIs.snoc {B : Nat} {w w2 w3 : World} {v v' : Value} {L : List Jc} {a : Jc} (h : OfIs B w v L) (hb : Below w.heap.size w w2) (hx : a.tup.length ≤ 1000000 ∧ w2.ownsRow B 3 1 a.x a.tup.length (a.tup.map (.int .i64)))
    (hown : w3.ownsRow B 53 2 v' (L.length + 1) (jflat L ++ [.int .i64 a.rule, a.x])) (hg : w2.grownBy w3 v.ownBlock) : OfIs B w3 v' (L ++ [a]) := by
  have h2 := h.below hb
  have hk : ∀ {n : Nat} {x : Value} {xs : List Value}, w2.ownsRow B 3 1 x n xs → w3.ownsRow B 3 1 x n xs := fun hr => hr.kept hg (by
    cases e : Value.ownBlock _ with
    | none => exact .inl rfl
    | some k => exact .inr fun q => owns_ne (by decide) hr h2.own e q.symm)
  refine ⟨by rw [List.length_append, jflat_append]; exact hown, fun j hj => ?_⟩
  rcases List.mem_append.1 hj with hj | hj
  · exact ⟨(h2.tups j hj).1, hk (h2.tups j hj).2⟩
  · simp only [List.mem_singleton] at hj
    subst hj
    exact ⟨hx.1, hk hx.2⟩

theorem box_keeps {V1 X2 : World} {lit : Obj} {row : Option Nat} {N o : Nat} {u : Value} (hg : (V1.alloc lit).grownBy X2 row) (hN : row ≠ some N) (hc : V1.cell? ⟨N, o, none⟩ = some u) : X2.cell? ⟨N, o, none⟩ = some u := by
  have hlt := lt_of_cell hc
  have h1 := hg.block N (by simp only [World.size_alloc] at *; omega) (fun e => hN e.symm)
  have h2 : (V1.alloc lit).cell? ⟨N, o, none⟩ = some u := KeepsCells.below ((Only.refl [] V1).alloc lit).below _ _ hc
  exact (World.cell?_of_block (w := V1.alloc lit) h1).trans h2

set_option maxRecDepth 100000 in
set_option maxHeartbeats 4000000 in
theorem of_any (b m : Nat) (M : List Sp) (id : Int) (w : World) (h : BookIs w b m M) (hjl : (getD M id).js.length ≤ 100000) :
    Calls Try.prog 32 #[.pointer (some ⟨b, 0, none⟩), .int .i64 id] w fun e w' => ∃ v L, e = .returned v ∧ OfIs w.heap.size w' v L ∧ (L.map Jc.co).Perm ((getD M id).js.map Jc.co) ∧ L.Pairwise (fun a b => cmpJ a b ≤ 0) ∧ Below w.heap.size w w' := by
  have c0 := (cells1b h.blk).1
  have hlook := run_lookup1 (P := Try.prog) (t := 86) Try.underlying86 Try.underlying3 h.map (zero_sup _) id
  rw [look_getD] at hlook
  have hG := h.getD id
  obtain ⟨G, hGe⟩ : ∃ G, getD M id = G := ⟨_, rfl⟩
  rw [hGe] at hG hjl hlook ⊢
  obtain ⟨gi, gp, js, gv⟩ := G
  simp only at hG hjl ⊢
  obtain ⟨ga, gc, rfl⟩ := hG.form
  unfold Sp.val at hlook
  simp only at hlook
  have hfl := field_l w
  obtain ⟨i0, hi0, hy0, hy1, hy2⟩ := jinfo_parts
  have Hi0 := hide hi0
  have Hy0 := hide hy0
  have Hy1 := hide hy1
  have Hy2 := hide hy2
  have HG := hide hG
  clear h hG hGe hi0 hy0 hy1 hy2
  go_enter Try.func32, Try.ntmps32
  go_wp2_with (go_at_call 53; refine (none_some b m _ c0).mono ?_; rintro e w' ⟨rfl, rfl⟩)
  clear hlook hfl c0
  go_loopw [4, 17] (fun v4 vi wr => ∃ (k : Nat) (L : List Jc) (la : Option Addr) (lc : Nat), k ≤ js.length ∧ vi = .int .i64 k ∧ v4 = .slice la k lc ∧ Hid (L.length = k ∧ OfIs w.heap.size wr (.slice la k lc) L ∧ L.map Jc.co = (js.take k).map Jc.co ∧ Below w.heap.size w wr)) (fun _ vi _ => js.length - (intOf vi).toNat)
  case atStart => exact ⟨0, [], none, 0, Nat.zero_le _, rfl, rfl, rfl, ⟨World.ownsRow_nil _ _ _ _, by simp⟩, by simp, Below.refl _ _⟩
  case round =>
    obtain ⟨k, L, la, lc, hk, rfl, rfl, hq⟩ := hrel
    by_cases hlk : k < js.length
    · have hJ := HG.out.keeps (KeepsCells.below hq.out.2.2.2)
      obtain ⟨g, off, cap, xa, xc, e, hx, e0, e1⟩ := hJ.at hlk
      injection e with f1 f2 f3
      subst f1 f3
      clear f2
      have hn := hJ.tups _ (List.getElem_mem hlk)
      have htk := List.take_succ_eq_append_getElem hlk
      obtain ⟨Z, hz⟩ : ∃ Z, js[k] = Z := ⟨_, rfl⟩
      rw [hz] at hx e0 e1 hn htk
      obtain ⟨zr, zt, zx⟩ := Z
      simp only at hx e0 e1 hn
      subst hx
      have hzl := hn.1
      obtain ⟨W, hW⟩ : ∃ W, wr.alloc (Obj.cells #[.int .i64 zr, .slice xa zt.length xc] 53) = W := ⟨_, rfl⟩
      have hbW : Below wr.heap.size wr W := by rw [← hW]; exact ((Only.refl [] wr).alloc _).below
      have hbx := heap_alloc0 wr (Obj.cells #[.int .i64 zr, .slice xa zt.length xc] 53)
      have hzW : W.heap.size = wr.heap.size + 1 := by rw [← hW]; simp
      rw [hW] at hbx
      have oD : Below W.heap.size W W.drew := (Only.drew (Only.refl [] W)).below
      have hnc := nclone _ zt W.drew ((hn.below hbW).below oD)
      obtain ⟨d0, d1, _⟩ := cells2e hbx
      have Hnc := hide hnc
      have HW := hide hW
      have Htk := hide htk
      have hltW : wr.heap.size < W.heap.size := by omega
      have hwr : w.heap.size ≤ wr.heap.size := hq.out.2.2.2.size
      have Hd : Hid (∀ V, Below W.heap.size W V → V.cell? ⟨wr.heap.size, 0, none⟩ = some (.int .i64 zr) ∧ V.cell? ⟨wr.heap.size, 1, none⟩ = some (.slice xa zt.length xc)) := hide fun V hV =>
        ⟨(hV.cell (p := ⟨wr.heap.size, 0, none⟩) hltW).trans d0, (hV.cell (p := ⟨wr.heap.size, 1, none⟩) hltW).trans d1⟩
      have HbW := hide hbW
      have Hne : Hid (Value.ownBlock (.slice la k lc) ≠ some wr.heap.size) := hide fun e => by have := (hq.out.2.1.own.lt _ e).2; omega
      have i1 : (k : Int) < (js.length : Int) := by omega
      have i2 : (0 : Int) ≤ (k : Int) := by omega
      clear hJ hn htk hz hbW hbx hzW oD hnc hW
      go_upto_region 6 with fail
      rw [HW.out]
      go_wp2_with fail
      go_region_held3 (fun V => V.cell? ⟨wr.heap.size, 0, none⟩ = some (.int .i64 zr) ∧ V.cell? ⟨wr.heap.size, 1, none⟩ = some (.slice xa zt.length xc)) (go_keep)
        (first
          | ((go_at_call 57; have hqq := Hnc.out; (with_reducible refine Calls.mono hqq ?_); clear hqq; rintro r V1 ⟨nv, rfl, hrw, hb1⟩; obtain ⟨na, nc, rfl⟩ := row_form hrw; have HV1 := hide (below_undrew hb1); have Hrw := hide hrw; obtain ⟨y0, y1⟩ := Hd.out V1 HV1.out; have hzV : W.heap.size ≤ V1.heap.size := HV1.out.size; clear hrw hb1))
          | (refine step_append_own rfl (.tmp 21) (.tmp 28) 60 rfl w.heap.size 53 i0 (.agg #[.int .i64 0, .slice none 0 0]) 2 32 Try.underlying60 Hi0.out Hy0.out Hy1.out Hy2.out rfl (by decide) (.slice la k lc) k (jflat L) ?_ (by have hkl := hq.out.1; have ho := hq.out.2.1.own; rw [hkl] at ho; exact (owns_below (owns_below ho HbW.out) HV1.out).alloc _) ⟨V1.heap.size, 0, none⟩ 1 1 [.int .i64 zr, .slice na zt.length nc] ?_ rfl (lit2_news (heap_alloc0 V1 _)) (by simp [Value.oneCell']) (by unfold maxLen; omega) (by omega) (by simp; omega) ?_; (focus (simp [Act.eval]; done)); (focus (simp [Act.eval]; done)); intro v2 X2 hown2 hg2; obtain ⟨a2, q2, rfl⟩ := row_form hown2; have HO2 := hide hown2; have HG2 := hide hg2; have z0 := box_keeps hg2 Hne.out y0; have z1 := box_keeps hg2 Hne.out y1; clear hown2 hg2))
      clear d0 d1 y0 y1 z0 z1 e0 e1
      have hstep : Hid ((L ++ [(⟨zr, zt, .slice na zt.length nc⟩ : Jc)]).length = k + 1 ∧ OfIs w.heap.size X2 (.slice a2 (k + 1) q2) (L ++ [⟨zr, zt, .slice na zt.length nc⟩]) ∧ (L ++ [(⟨zr, zt, .slice na zt.length nc⟩ : Jc)]).map Jc.co = (js.take (k + 1)).map Jc.co ∧ Below w.heap.size w X2) := hide (by
        obtain ⟨hkl, hof, hco, hbw⟩ := hq.out
        have hb1 : Below wr.heap.size wr V1 := HbW.out.trans (HV1.out.mono (by omega))
        have hb2 : Below wr.heap.size wr (V1.alloc (Obj.cells #[.int .i64 zr, .slice na zt.length nc] 53)) := hb1.alloc hb1.size _
        have hnew := OfIs.snoc (a := ⟨zr, zt, .slice na zt.length nc⟩) (v' := .slice a2 (k + 1) q2) hof hb2 ⟨hzl, (owns_base Hrw.out (by show w.heap.size ≤ W.heap.size; omega)).alloc _⟩ (by rw [hkl]; exact HO2.out) HG2.out
        refine ⟨by simp [hkl], hnew, ?_, (hbw.trans (hb2.mono hwr)).grown HG2.out (by simp; omega) (fun i e => (hof.own.lt i e).1)⟩
        rw [List.map_append, hco, Htk.out, List.map_append]
        rfl)
      clear Hnc HW Htk Hd HbW Hne HV1 Hrw HO2 HG2 hq
      go_wp2
      go_roundw
      case rel => exact ⟨k + 1, _, a2, q2, by omega, by go_num, by go_num, hstep.out⟩
      case measure => simp [intOf]; omega
    · obtain rfl : k = js.length := by omega
      obtain ⟨hkl, hof, hco, hbw⟩ := hq.out
      rw [List.take_length] at hco
      have hso := sortJ_any w.heap.size (.slice la js.length lc) L wr (by omega) hof.own (fun j hj V hV => NIs.of_row (hof.tups j hj).1 (owns_only (hof.tups j hj).2 hV (fun i hi hm => by
        simp only [Option.mem_toList] at hm
        exact owns_ne (by decide) (hof.tups j hj).2 hof.own hi hm)))
      have Hso := hide hso
      have Hof := hide hof
      have Hco := hide hco
      have Hbw := hide hbw
      clear hso hof hco hbw hq hkl
      go_wp2_with fail
      (with_reducible refine Hso.out.mono ?_)
      rintro e V ⟨rfl, L', hp, hs, hr, ho⟩
      have HF : Hid (OfIs w.heap.size V (.slice la js.length lc) L' ∧ (L'.map Jc.co).Perm (js.map Jc.co) ∧ L'.Pairwise (fun a b => cmpJ a b ≤ 0) ∧ Below w.heap.size w V) := hide ⟨⟨hr, fun j hj => by
          have hj' := hp.mem_iff.1 hj
          exact ⟨(Hof.out.tups j hj').1, owns_only (Hof.out.tups j hj').2 ho (fun i hi hm => by
            simp only [Option.mem_toList] at hm
            exact owns_ne (by decide) (Hof.out.tups j hj').2 Hof.out.own hi hm)⟩⟩, by rw [← Hco.out]; exact hp.map _, hs, below_only Hbw.out ho (fun i hi => by
          simp only [Option.mem_toList] at hi
          exact (Hof.out.own.lt i hi).1) Hbw.out.size⟩
      clear hp hs hr ho Hso Hof Hco Hbw
      go_wp2
      go_ret
      exact ⟨_, L', rfl, HF.out⟩
end Go.Proofs.Ytmcajoccfbebiaa
