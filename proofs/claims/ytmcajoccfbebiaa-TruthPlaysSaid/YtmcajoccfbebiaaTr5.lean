/- Justifications cloned; Justify. -/
import Derived.Test.YtmcajoccfbebiaaTr4
import Derived.Test.YtmcajoccfbebiaaStep
namespace Go.Proofs.Ytmcajoccfbebiaa
open Go Go.RowKit Go.MapKept Go.Sort

theorem JsIs.news {w : World} {v : Value} {l : List Jc} (h : JsIs w v l) : (v = .slice none 0 0 ∧ l = []) ∨ ∃ ad c, v = .slice (some ad) l.length c ∧ l.length ≤ c ∧ ∀ j u, (jflat l)[j]? = some u → w.cell? (ad.add j) = some u := by
  have hcap := h.cap
  rcases h.row with ⟨b, off, cap, rfl, hi⟩ | ⟨rfl, rfl | ⟨a, cap, rfl⟩⟩
  · refine .inr ⟨_, _, rfl, hcap, fun j u hu => ?_⟩
    have hj : j < l.length * 2 := by have := (List.getElem?_eq_some_iff.1 hu).1; rwa [jflat_length] at this
    obtain ⟨k0, k1⟩ := jflat_get l (j / 2) (by omega)
    obtain ⟨c0, c1⟩ := hi (j / 2) (by omega)
    rcases Nat.mod_two_eq_zero_or_one j with q | q
    · have e : j / 2 * 2 = j := by omega
      rw [e] at k0 c0
      rw [hu] at k0
      cases k0
      simpa only [Addr.add_lit] using c0
    · have e : j / 2 * 2 + 1 = j := by omega
      rw [e] at k1
      rw [Nat.add_assoc, e] at c1
      rw [hu] at k1
      cases k1
      simpa only [Addr.add_lit] using c1
  · exact .inl ⟨rfl, rfl⟩
  · exact .inr ⟨_, _, rfl, hcap, fun j u hu => by simp [jflat] at hu⟩

theorem js_one {w : World} {v : Value} {l : List Jc} (h : JsIs w v l) : ∀ u ∈ jflat l, u.oneCell' = true := jflat_one l fun j hj => by obtain ⟨a, c, q⟩ := (h.tups j hj).form; exact ⟨_, _, _, q⟩

set_option maxRecDepth 100000 in
set_option maxHeartbeats 1000000 in
theorem cloneJ_any (v : Value) (l : List Jc) (w : World) (h : JsIs w v l) :
    Calls Try.prog 58 #[v] w fun r w' => ∃ v', r = .returned v' ∧ w'.ownsRow w.heap.size 53 2 v' l.length (jflat l) ∧ Below w.heap.size w w' := by
  have hlen := h.len
  obtain ⟨i0, hi0, hz0, hz1, hz2⟩ := jinfo_parts
  rcases h.news with ⟨rfl, rfl⟩ | ⟨ad, c, rfl, hc, hn⟩
  · have hnil : ∀ w : World, (binOp .eql 60 (.slice none 0 0) (.slice none 0 0)).run Try.prog w = .ok (.bool true) w := fun w => Lib.run_eql_slice_nil w _ _ none _ _ _ _ Try.underlying60
    clear h hi0 hz0 hz1 hz2 hlen
    go_enter Try.func58, Try.ntmps58
    go_wp2
    go_ret
    exact ⟨_, rfl, World.ownsRow_nil _ _ _ _, Below.refl _ _⟩
  · have hb1 : Below w.heap.size w (w.alloc (.cells #[] 53)) := ((Only.refl [] w).alloc _).below
    have hown0 : (w.alloc (.cells #[] 53)).ownsRow w.heap.size 53 2 (.slice (some ⟨w.heap.size, 0, none⟩) 0 0) 0 [] := World.ownsRow_made w #[] 0 (Nat.le_refl _) (by decide) rfl
    have hnews : ∀ j u, (jflat l)[j]? = some u → (w.alloc (.cells #[] 53)).cell? (ad.add j) = some u := fun j u hu => (KeepsCells.below hb1) _ _ (hn j u hu)
    have honel := js_one h
    have Hi0 := hide hi0
    have Hz0 := hide hz0
    have Hz1 := hide hz1
    have Hz2 := hide hz2
    have Honel := hide honel
    have Hnews := hide hnews
    have Hown0 := hide hown0
    have HB1 := hide hb1
    have hfl := hide (jflat_length l)
    have hnil : ∀ w : World, (binOp .eql 60 (.slice (some ad) l.length c) (.slice none 0 0)).run Try.prog w = .ok (.bool false) w := fun w => Lib.run_eql_slice_nil w _ _ (some ad) _ _ _ _ Try.underlying60
    clear h hi0 hz0 hz1 hz2 honel hnews hown0 hb1 hn
    go_enter Try.func58, Try.ntmps58
    go_wp2_with (at_builtin; refine wpList_append_own _ rfl (.tmp 5) (.tmp 6) _ rfl w.heap.size 53 i0 (.agg #[.int .i64 0, .slice none 0 0]) 2 32 Try.underlying60 Hi0.out Hz0.out Hz1.out Hz2.out rfl (by decide) (.slice (some ⟨w.heap.size, 0, none⟩) 0 0) 0 [] rfl Hown0.out ad l.length c (jflat l) rfl hfl.out Hnews.out Honel.out (by unfold maxLen; omega) (by omega) (by simp) ?_; intro v1 w1 hown1 hgrow1 _; simp only [Nat.zero_add, List.nil_append] at hown1; obtain ⟨na, nc, rfl⟩ := row_form hown1; have Hown1 := hide hown1; have HB2 := hide (HB1.out.grown hgrow1 (by simp) (fun k e => by simp [Value.ownBlock] at e; omega)); clear hown1 hgrow1)
    go_wp2
    go_ret
    exact ⟨_, rfl, Hown1.out, HB2.out⟩

/-- What Justify and Withdraw ask: the same as the one in block px? -/
theorem asks_same (fn : Nat) (hfn : fn = 55 ∨ fn = 79) (S : List Nat) (px : Nat) (x : Jc) (w : World) (h0 : w.cell? ⟨px, 0, none⟩ = some (.int .i64 x.rule)) (h1 : w.cell? ⟨px, 1, none⟩ = some x.x) (hS : px ∉ S) (hx : ∀ V, Only S w V → NIs V x.x x.tup) :
    AskJ S w fn #[.pointer (some ⟨px, 0, none⟩)] (fun j => j.same x) := fun j V hV hj => by
  have hlt := lt_of_cell h0
  have g0 := (hV.cell (p := ⟨px, 0, none⟩) hlt hS).trans h0
  have g1 := (hV.cell (p := ⟨px, 1, none⟩) hlt hS).trans h1
  have hxV := hx V hV
  have hltV := lt_of_cell g0
  obtain ⟨rj, lj, vj⟩ := j
  obtain ⟨rx, lx, vx⟩ := x
  simp only at hj g0 g1 hxV hltV
  obtain ⟨ja, jc, rfl⟩ := hj.form
  obtain ⟨xa, xc, rfl⟩ := hxV.form
  have hb1 : Below V.heap.size V (V.alloc (Obj.cells #[.int .i64 rj, .slice ja lj.length jc] 53)) := ((Only.refl [] V).alloc _).below
  have hs := same_any ⟨rj, lj, .slice ja lj.length jc⟩ ⟨rx, lx, .slice xa lx.length xc⟩ _ (hj.below hb1) (hxV.below hb1)
  unfold Jc.val at hs
  have Hs := hide hs
  have HB := hide hb1
  clear hs hb1 hj hx hxV hV h0 h1 hlt
  unfold Jc.val
  obtain ⟨p, hp⟩ : ∃ p, (⟨rj, lj, .slice ja lj.length jc⟩ : Jc).same ⟨rx, lx, .slice xa lx.length xc⟩ = p := ⟨_, rfl⟩
  simp only at Hs ⊢
  rw [hp] at Hs ⊢
  clear hp
  rcases hfn with rfl | rfl
  · go_enter Try.func55, Try.ntmps55
    go_wp2_with fail
    (with_reducible refine Hs.out.mono ?_)
    rintro r w' ⟨rfl, hb⟩
    have HF := hide (HB.out.trans (hb.mono HB.out.size))
    clear hb
    go_wp2
    go_ret
    exact ⟨rfl, HF.out⟩
  · go_enter Try.func79, Try.ntmps79
    go_wp2_with fail
    (with_reducible refine Hs.out.mono ?_)
    rintro r w' ⟨rfl, hb⟩
    have HF := hide (HB.out.trans (hb.mono HB.out.size))
    clear hb
    go_wp2
    go_ret
    exact ⟨rfl, HF.out⟩
theorem eg_justify : ∀ args w, (callFunc 55 args).run Try.prog w = .ok (.enter 55 args) w := enters_of Try.func55 (by kernel_rfl) rfl
theorem eg_withdraw : ∀ args w, (callFunc 79 args).run Try.prog w = .ok (.enter 79 args) w := enters_of Try.func79 (by kernel_rfl) rfl
end Go.Proofs.Ytmcajoccfbebiaa
