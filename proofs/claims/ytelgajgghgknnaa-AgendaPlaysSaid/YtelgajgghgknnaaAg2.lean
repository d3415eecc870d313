/- The contract of an agenda's told: the lists. -/
import Derived.Test.YtelgajgghgknnaaAg1
namespace Go.Proofs.Ytelgajgghgknnaa
open Go Go.RowKit Go.MapKept Go.Sort

/-- What a function of package agenda asks of an entry. -/
def Asks (fn : Nat) (asked : En → Bool) : Prop := ∀ (e : En) (w : World), (∃ a n c, e.ac.x = .slice a n c) → Calls Try.prog fn #[e.val] w fun r w' => r = .returned (.bool (asked e)) ∧ Below w.heap.size w w'

theorem asks_all : Asks 34 (fun _ => true) := fun e w hx => by
  obtain ⟨⟨re, le, se, xe⟩, fe⟩ := e
  obtain ⟨a, n, c, h⟩ := hx
  simp only at h
  subst h
  unfold En.val
  go_enter Try.func34, Try.ntmps34
  go_wp2
  go_ret
  exact ⟨rfl, ((Only.refl [] w).alloc _).below⟩

theorem asks_list : Asks 37 (fun e => !e.fired) := fun e w hx => by
  obtain ⟨⟨re, le, se, xe⟩, fe⟩ := e
  obtain ⟨a, n, c, h⟩ := hx
  simp only at h
  subst h
  unfold En.val
  simp only
  cases fe
  · go_enter Try.func37, Try.ntmps37
    go_wp2
    go_ret
    exact ⟨rfl, ((Only.refl [] w).alloc _).below⟩
  · go_enter Try.func37, Try.ntmps37
    go_wp2
    go_ret
    exact ⟨rfl, ((Only.refl [] w).alloc _).below⟩

set_option maxRecDepth 100000 in
set_option maxHeartbeats 2000000 in
theorem told_any (fn : Nat) (asked : En → Bool) (eg : ∀ args w, (callFunc fn args).run Try.prog w = .ok (.enter fn args) w) (ha : Asks fn asked) (B b : Nat) (s : Int) (v : Value) (l : List En) (w : World) (h : AgIs B w b s v l) :
    Calls Try.prog 33 #[.pointer (some ⟨b, 0, none⟩), .func (.func fn) #[] #[]] w fun r w' => ∃ v' l', r = .returned v' ∧ ResIs w.heap.size w' v' l' ∧ l'.map Ac.co = sortC s ((l.filter asked).map fun e => e.ac.co) ∧ Below w.heap.size w w' := by
  have hlt := lt_of_heap h.blk
  obtain ⟨d0, d1, _, _⟩ := cells2e h.blk
  obtain ⟨va, vc, rfl, hvc⟩ := h.ens.form
  have hlen := h.ens.len
  obtain ⟨i0, hi, hz0, hz1, hz2⟩ := ainfo_parts
  have H := hide h
  have Hi := hide hi
  have Hz0 := hide hz0
  have Hz1 := hide hz1
  have Hz2 := hide hz2
  have HA := hide ha
  clear h hi hz0 hz1 hz2 ha
  go_enter Try.func33, Try.ntmps33
  go_wp2_with fail
  go_loopw [5, 13] (fun vo vi wr => ∃ (k m : Nat) (lk : List Ac) (la : Option Addr) (lc : Nat), k ≤ l.length ∧ vi = .int .i64 k ∧ vo = .slice la m lc ∧ Hid (m ≤ k ∧ lk.length = m ∧ lk = ((l.take k).filter asked).map (fun e => e.ac) ∧ wr.ownsRow w.heap.size 27 3 (.slice la m lc) m (aflat lk) ∧ Below w.heap.size w wr)) (fun _ i _ => l.length - (intOf i).toNat)
  case atStart => exact ⟨0, 0, [], none, 0, Nat.zero_le _, rfl, rfl, Nat.le_refl _, rfl, by simp, World.ownsRow_nil _ _ _ _, Below.refl _ _⟩
  case round =>
    obtain ⟨k, m, lk, la, lc, hk, rfl, rfl, hq⟩ := hrel
    by_cases hlk : k < l.length
    · have hr := H.out.ens.below hq.out.2.2.2.2
      obtain ⟨g, cap, xa, xc, e, _, _, _, hex, ⟨c0, c1, c2, c3⟩, _⟩ := hr.at hlk
      injection e with e1 e2 e3
      subst e1 e3
      clear e2
      obtain ⟨E, hE⟩ : ∃ E, l[k] = E := ⟨_, rfl⟩
      rw [hE] at hex c0 c1 c2 c3
      obtain ⟨⟨re, le, se, xe⟩, fe⟩ := E
      simp only at hex c0 c1 c2 c3
      subst hex
      have hb1 : Below wr.heap.size wr (wr.alloc (Obj.cells #[.int .i64 re, .slice xa le.length xc, .int .i64 se, .bool fe] 61)) := ((Only.refl [] wr).alloc _).below
      have hbox := heap_alloc0 wr (Obj.cells #[.int .i64 re, .slice xa le.length xc, .int .i64 se, .bool fe] 61)
      have hask := HA.out ⟨⟨re, le, se, .slice xa le.length xc⟩, fe⟩ (wr.alloc (Obj.cells #[.int .i64 re, .slice xa le.length xc, .int .i64 se, .bool fe] 61)) ⟨_, _, _, rfl⟩
      unfold En.val at hask
      obtain ⟨p, hp⟩ : ∃ p, asked ⟨⟨re, le, se, .slice xa le.length xc⟩, fe⟩ = p := ⟨_, rfl⟩
      rw [hp] at hask
      have Hask := hide hask
      have Hbox := hide hbox
      have HB1 := hide hb1
      have HE := hide hE
      have Hp := hide hp
      have htk : Hid (((l.take (k + 1)).filter asked).map (fun e => e.ac) = lk ++ (if p then [⟨re, le, se, .slice xa le.length xc⟩] else [])) := by
        rw [List.take_succ_eq_append_getElem hlk, HE.out, List.filter_append, List.map_append, ← hq.out.2.2.1]
        congr 1
        simp only [List.filter_cons, Hp.out, List.filter_nil]
        cases p <;> rfl
      clear hr hask hbox hb1 hE hp
      go_wp2_with fail
      refine Hask.out.mono ?_
      rintro r V ⟨rfl, hbV⟩
      have hb2 := HB1.out.trans (hbV.mono (by simp))
      obtain ⟨y0, y1, y2, y3⟩ := cells4e ((hbV.block wr.heap.size (by simp)).trans Hbox.out)
      have Hb2 := hide hb2
      have hltV : wr.heap.size < V.heap.size := by have := hbV.size; simp at this; omega
      clear hbV hb2 Hask
      cases p
      · have hnew : Hid (m ≤ k + 1 ∧ lk.length = m ∧ lk = ((l.take (k + 1)).filter asked).map (fun e => e.ac) ∧ V.ownsRow w.heap.size 27 3 (.slice la m lc) m (aflat lk) ∧ Below w.heap.size w V) := by
          have h5 := hq.out.2.2.2.2
          exact ⟨by have := hq.out.1; omega, hq.out.2.1, by rw [htk.out]; simp, owns_below hq.out.2.2.2.1 Hb2.out, h5.trans (Hb2.out.mono h5.size)⟩
        clear y0 y1 y2 y3
        go_wp2
        go_roundw
        case rel => exact ⟨k + 1, m, lk, la, lc, by omega, by go_num, rfl, hnew.out⟩
        case measure => simp [intOf]; omega
      · have hown := (owns_below hq.out.2.2.2.1 Hb2.out).alloc (Obj.cells #[.int .i64 re, .slice xa le.length xc, .int .i64 se] 27)
        have hnews := World.news_of_block (cs := #[.int .i64 re, .slice xa le.length xc, .int .i64 se]) (t := 27) (fr := (0, 0)) (heap_alloc_new V (Obj.cells #[.int .i64 re, .slice xa le.length xc, .int .i64 se] 27))
        have hmk := hq.out.1
        have hwr : w.heap.size ≤ wr.heap.size := hq.out.2.2.2.2.size
        have Hown := hide hown
        have Hnews := hide hnews
        clear hown hnews
        go_wp2_with (at_builtin; refine wpList_append_lies _ rfl (.tmp 20) (.tmp 23) _ rfl w.heap.size 27 i0 (.agg #[.int .i64 0, .slice none 0 0, .int .i64 0]) 3 40 Try.underlying22 Hi.out Hz0.out Hz1.out Hz2.out rfl (by decide) (.slice la m lc) m (aflat lk) rfl Hown.out ⟨V.heap.size, 0, none⟩ 1 1 [.int .i64 re, .slice xa le.length xc, .int .i64 se] rfl rfl Hnews.out (by simp [Value.oneCell']) (by decide) (by unfold maxLen; omega) (by omega) (by simp; omega) (V.heap.size + 1) (by simp) ?_; intro g' cap' w5 hown5 hgrow hat hlt5; have Hown5 := hide hown5; have Hgrow := hide hgrow; clear hown5 hgrow hat hlt5)
        have hnew : Hid (m + 1 ≤ k + 1 ∧ (lk ++ [(⟨re, le, se, .slice xa le.length xc⟩ : Ac)]).length = m + 1 ∧ lk ++ [(⟨re, le, se, .slice xa le.length xc⟩ : Ac)] = ((l.take (k + 1)).filter asked).map (fun e => e.ac) ∧ w5.ownsRow w.heap.size 27 3 (.slice (some ⟨g', 0, none⟩) (m + 1) cap') (m + 1) (aflat (lk ++ [(⟨re, le, se, .slice xa le.length xc⟩ : Ac)])) ∧ Below w.heap.size w w5) := by
          have h5 := hq.out.2.2.2.2
          have hrow := row_own Hown.out
          have h6 : Below w.heap.size w (V.alloc (Obj.cells #[.int .i64 re, .slice xa le.length xc, .int .i64 se] 27)) := (h5.trans (Hb2.out.mono h5.size)).alloc (by omega) _
          refine ⟨by omega, by simp [hq.out.2.1], by rw [htk.out]; rfl, by rw [aflat_append]; exact Hown5.out, h6.grown Hgrow.out (by simp; omega) (fun k hk => hrow k hk)⟩
        clear y0 y1 y2 y3
        go_wp2
        go_roundw
        case rel => exact ⟨k + 1, m + 1, _, _, cap', by omega, by go_num, rfl, hnew.out⟩
        case measure => simp [intOf]; omega
    · obtain rfl : k = l.length := by omega
      have hlm := hq.out.2.1
      have hml := hq.out.1
      have hr := H.out.ens.below hq.out.2.2.2.2
      have hb := hq.out.2.2.2.2
      have hin : ActsIs wr (.slice la m lc) lk := by
        have hrow := hq.out.2.2.2.1
        rw [← hlm] at hrow ⊢
        exact ActsIs.of_owns (by omega) hrow (fun a ha => by
          rw [hq.out.2.2.1] at ha
          obtain ⟨e, he, rfl⟩ := List.mem_map.1 ha
          exact hr.nis (List.mem_of_mem_take (List.mem_filter.1 he).1))
      have hco : lk.map Ac.co = (l.filter asked).map fun e => e.ac.co := by
        rw [hq.out.2.2.1, List.take_length, List.map_map]
        rfl
      have k0 := (hb.cell (p := ⟨b, 0, none⟩) hlt).trans d0
      have Hso := hide (sort_any s _ lk wr hin)
      have Hb := hide hb
      have Hco := hide hco
      clear hr hin hb hco hq hlm
      go_wp2_with fail
      refine Hso.out.mono ?_
      rintro r w2 ⟨v', l', rfl, hres, hc, hb2⟩
      obtain ⟨xa', xc', rfl⟩ := hres.acts.form
      have hres' : ResIs w.heap.size w2 (.slice xa' l'.length xc') l' := by
        have hz := Hb.out.size
        exact ⟨hres.acts, fun a n c e hn => Nat.le_trans hz (hres.fresh a n c e hn), fun a ha => owns_base (hres.tups a ha) hz, hres.apart, hres.cap⟩
      have Hres := hide hres'
      have Hc := hide hc
      have HF := hide (Hb.out.trans (hb2.mono Hb.out.size))
      clear hres hres' hc hb2
      go_wp2
      go_ret
      exact ⟨_, l', rfl, Hres.out, by rw [Hc.out, Hco.out], HF.out⟩
end Go.Proofs.Ytelgajgghgknnaa
