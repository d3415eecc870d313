/- The contracts of witanref27's List, Fire. -/
import Derived.Test.YtelgajgghgknnaaRAg2
namespace Go.Proofs.Ytelgajgghgknnaa
open Go Go.RowKit Go.MapKept Go.Sort

/-- What the document's list has. -/
def openR (L F : List Ac) : List Ac := L.filter fun a => !(F.any fun c => c.same a)

set_option maxRecDepth 100000 in
set_option maxHeartbeats 2000000 in
theorem rList_any {w0 : World} (b : Nat) (s : Int) (vL vF : Value) (L F : List Ac) (w : World) (h : RefIs w0 w b s vL vF L F) :
    Calls Try.prog 25 #[.pointer (some ⟨b, 0, none⟩)] w fun r w' => ∃ v' l', r = .returned v' ∧ ActsIs w' v' l' ∧ (∀ a ∈ l', a ∈ L) ∧ l'.map Ac.co = sortC s ((openR L F).map Ac.co) ∧ Below w.heap.size w w' ∧ w'.ownsRow w.heap.size 27 3 v' l'.length (aflat l') := by
  have hltb := lt_of_heap h.blk
  obtain ⟨e0, e1, _, _, _⟩ := cells3f h.blk
  obtain ⟨va, vc, rfl⟩ := h.actsL.form
  have hLl := h.lenL
  obtain ⟨i0, hi, hz0, hz1, hz2⟩ := ainfo_parts
  have Hi := hide hi
  have Hz0 := hide hz0
  have Hz1 := hide hz1
  have Hz2 := hide hz2
  have H := hide h
  have hcell : ∀ V, Below w.heap.size w V → V.cell? ⟨b, 0, none⟩ = some (.int .u8 s) ∧ V.cell? ⟨b, 1, none⟩ = some (.slice va L.length vc) := fun V hV => ⟨(hV.cell (p := ⟨b, 0, none⟩) hltb).trans e0, (hV.cell (p := ⟨b, 1, none⟩) hltb).trans e1⟩
  have Hcell := hide hcell
  clear hi hz0 hz1 hz2 h hcell e0 e1
  go_enter Try.func25, Try.ntmps25
  go_wp2_with fail
  go_loopw [3, 4] (fun vo vi wr => ∃ (k m : Nat) (rk : List Ac) (la : Option Addr) (lc : Nat), k ≤ L.length ∧ vi = .int .i64 k ∧ vo = .slice la m lc ∧ Hid (m ≤ k ∧ rk.length = m ∧ rk = openR (L.take k) F ∧ wr.ownsRow w.heap.size 27 3 (.slice la m lc) m (aflat rk)) ∧ Hid (Below w.heap.size w wr)) (fun _ i _ => L.length - (intOf i).toNat)
  case atStart => exact ⟨0, 0, [], none, 0, Nat.zero_le _, rfl, rfl, ⟨Nat.le_refl _, rfl, by simp [openR], World.ownsRow_nil _ _ _ _⟩, Below.refl _ _⟩
  case round =>
    obtain ⟨k, m, rk, la, lc, hk, rfl, rfl, hq, hb⟩ := hrel
    obtain ⟨f0, f1⟩ := Hcell.out wr hb.out
    by_cases hlk : k < L.length
    · have hR := H.out.to hb.out
      have hLr := hR.actsL
      obtain ⟨gb, off, cap, ya, yc, e, hy, c0, c1, c2⟩ := hLr.at hlk
      injection e with e1 e2 e3
      subst e1 e3
      clear e2
      have hyn := hLr.tups _ (List.getElem_mem hlk)
      have htk := List.take_succ_eq_append_getElem hlk
      obtain ⟨Y, hYd⟩ : ∃ Y, L[k] = Y := ⟨_, rfl⟩
      rw [hYd] at hy c0 c1 c2 hyn htk
      obtain ⟨ry, ty, sy, ay⟩ := Y
      simp only at hy c0 c1 c2 hyn
      subst hy
      have hfd := rFired_any b s _ vF L F ⟨ry, ty, sy, .slice ya ty.length yc⟩ wr hR hyn
      unfold Ac.val at hfd
      obtain ⟨p, hp⟩ : ∃ p, (F.any fun a => a.same ⟨ry, ty, sy, .slice ya ty.length yc⟩) = p := ⟨_, rfl⟩
      rw [hp] at hfd
      have htk2 : Hid (openR (L.take (k + 1)) F = rk ++ (if p then [] else [⟨ry, ty, sy, .slice ya ty.length yc⟩])) := by
        unfold openR
        rw [htk, List.filter_append]
        have := hq.out.2.2.1
        unfold openR at this
        rw [← this]
        congr 1
        simp only [List.filter_cons, hp, List.filter_nil]
        cases p <;> rfl
      have hck : ∀ V, Below wr.heap.size wr V → V.cell? ⟨gb, off + k * 3, none⟩ = some (.int .i64 ry) ∧ V.cell? ⟨gb, off + k * 3 + 1, none⟩ = some (.slice ya ty.length yc) ∧ V.cell? ⟨gb, off + k * 3 + 2, none⟩ = some (.int .i64 sy) := fun V hV =>
        ⟨(hV.cell (p := ⟨gb, off + k * 3, none⟩) (lt_of_cell c0)).trans c0, (hV.cell (p := ⟨gb, off + k * 3 + 1, none⟩) (lt_of_cell c1)).trans c1, (hV.cell (p := ⟨gb, off + k * 3 + 2, none⟩) (lt_of_cell c2)).trans c2⟩
      have Hfd := hide hfd
      have Hck := hide hck
      have i1 : (k : Int) < (L.length : Int) := by omega
      have i2 : (0 : Int) ≤ (k : Int) := by omega
      clear hR hLr hyn htk hYd hfd hp hck
      go_wp2_with fail
      (with_reducible refine Hfd.out.mono ?_)
      rintro r V ⟨rfl, hbV⟩
      have HbR := hide hbV
      have hbf := hb.out.trans (hbV.mono hb.out.size)
      have Hbf := hide hbf
      have hmq := hq.out.1
      have hwz : w.heap.size ≤ wr.heap.size := hb.out.size
      have hvz : wr.heap.size ≤ V.heap.size := hbV.size
      clear c0 c1 c2 f0 f1 hbf
      obtain ⟨c0, c1, c2⟩ := Hck.out V hbV
      obtain ⟨f0, f1⟩ := Hcell.out V Hbf.out
      clear hbV Hfd
      cases p
      · have hown := (owns_below hq.out.2.2.2 HbR.out).alloc (Obj.cells #[.int .i64 ry, .slice ya ty.length yc, .int .i64 sy] 27)
        have hnews := World.news_of_block (cs := #[.int .i64 ry, .slice ya ty.length yc, .int .i64 sy]) (t := 27) (fr := (0, 0)) (heap_alloc_new V (Obj.cells #[.int .i64 ry, .slice ya ty.length yc, .int .i64 sy] 27))
        have Hown := hide hown
        have Hnews := hide hnews
        clear hown hnews
        go_wp2_with (at_builtin; refine wpList_append_lies _ rfl (.tmp 24) (.tmp 32) _ rfl w.heap.size 27 i0 (.agg #[.int .i64 0, .slice none 0 0, .int .i64 0]) 3 40 Try.underlying22 Hi.out Hz0.out Hz1.out Hz2.out rfl (by decide) (.slice la m lc) m (aflat rk) rfl Hown.out ⟨V.heap.size, 0, none⟩ 1 1 [.int .i64 ry, .slice ya ty.length yc, .int .i64 sy] rfl rfl Hnews.out (by simp [Value.oneCell']) (by decide) (by unfold maxLen; omega) (by omega) (by simp; omega) (V.heap.size + 1) (by simp) ?_; intro g' cap' w8 hown5 hgrow hat hlt5; have Hown5 := hide hown5; have Hgrow := hide hgrow; clear hown5 hgrow hat hlt5)
        have hnew : Hid (m + 1 ≤ k + 1 ∧ (rk ++ [(⟨ry, ty, sy, .slice ya ty.length yc⟩ : Ac)]).length = m + 1 ∧ rk ++ [(⟨ry, ty, sy, .slice ya ty.length yc⟩ : Ac)] = openR (L.take (k + 1)) F ∧ w8.ownsRow w.heap.size 27 3 (.slice (some ⟨g', 0, none⟩) (m + 1) cap') (m + 1) (aflat (rk ++ [(⟨ry, ty, sy, .slice ya ty.length yc⟩ : Ac)]))) :=
          hide ⟨by omega, by simp [hq.out.2.1], by rw [htk2.out]; rfl, by rw [aflat_append]; exact Hown5.out⟩
        have hrow := row_own Hown.out
        have HF := hide (show Below w.heap.size w w8 from (Hbf.out.alloc (by omega) _).grown Hgrow.out (by simp; omega) (fun k hk => hrow k hk))
        clear c0 c1 c2 f0 f1
        go_wp2
        go_roundw
        case rel => exact ⟨k + 1, m + 1, _, _, cap', by omega, by go_num, rfl, hnew.out, HF.out⟩
        case measure => simp [intOf]; omega
      · have hnew : Hid (m ≤ k + 1 ∧ rk.length = m ∧ rk = openR (L.take (k + 1)) F ∧ V.ownsRow w.heap.size 27 3 (.slice la m lc) m (aflat rk)) :=
          hide ⟨by omega, hq.out.2.1, by rw [htk2.out]; simp, owns_below hq.out.2.2.2 HbR.out⟩
        clear c0 c1 c2 f0 f1
        go_wp2
        go_roundw
        case rel => exact ⟨k + 1, m, rk, la, lc, by omega, by go_num, rfl, hnew.out, Hbf.out⟩
        case measure => simp [intOf]; omega
    · obtain rfl : k = L.length := by omega
      have hr := hq.out.2.2.1
      rw [List.take_length] at hr
      have hsub : ∀ a ∈ rk, a ∈ L := fun a ha => by rw [hr] at ha; exact (List.mem_filter.1 ha).1
      have hin : ActsIs wr (.slice la m lc) rk := by
        have hrow := hq.out.2.2.2
        have hlm := hq.out.2.1
        have := hq.out.1
        rw [← hlm] at hrow ⊢
        exact ActsIs.of_owns (by omega) hrow (fun a ha => ((H.out.to hb.out).actsL).tups a (hsub a ha))
      have Hso := hide (rsort_perm s _ rk wr hin)
      have Hr := hide hr
      have Hsub := hide hsub
      clear hq hr hin hsub
      go_wp2_with fail
      (with_reducible refine Hso.out.mono ?_)
      rintro r V ⟨v', l', rfl, h1, h2, h3, h5, h6⟩
      obtain ⟨a', c', rfl⟩ := h1.form
      have H6 := hide (owns_base h6 hb.out.size)
      have hmem : ∀ a ∈ l', a ∈ L := fun a ha => Hsub.out a (h5.mem_iff.1 ha)
      have H1 := hide h1
      have H2 := hide h2
      have H4 := hide hmem
      have HF := hide (hb.out.trans (h3.mono hb.out.size))
      clear h1 h2 h3 h5 h6 hmem f0 f1
      go_wp2
      go_ret
      exact ⟨_, l', rfl, H1.out, H4.out, by rw [H2.out, Hr.out], HF.out, H6.out⟩
end Go.Proofs.Ytelgajgghgknnaa
