/- The contract of slices.Insert of one entry. -/
import Derived.Test.YtelgajgghgknnaaEn
import Derived.Laws.Externs
import Derived.Lib.Overlaps
import Derived.IntWalk
namespace Go.Proofs.Ytelgajgghgknnaa
open Go Go.RowKit Go.MapKept Go.Sort

theorem einfo : (Try.prog.info? 61).map (fun i => (i.zero, i.size, i.bytes)) = some (some (.agg #[.int .i64 0, .slice none 0 0, .int .i64 0, .bool false]), 4, 48) := by kernel_rfl
theorem einfo_parts : ∃ i, Try.prog.info? 61 = some i ∧ i.zero = some (.agg #[.int .i64 0, .slice none 0 0, .int .i64 0, .bool false]) ∧ i.size = 4 ∧ i.bytes = 48 := by
  have h := einfo
  cases hi : Try.prog.info? 61 with
  | none => simp [hi] at h
  | some i =>
    simp [hi] at h
    exact ⟨i, rfl, h.1, h.2.1, h.2.2⟩

/-- The entries with one more at place i. -/
def laid (l : List En) (i : Nat) (x : En) : List En := l.take i ++ [x] ++ l.drop i
theorem laid_length (l : List En) (i : Nat) (x : En) (h : i ≤ l.length) : (laid l i x).length = l.length + 1 := by simp [laid]; omega
def ecells (x : En) : List Value := [.int .i64 x.ac.rule, x.ac.x, .int .i64 x.ac.sal, .bool x.fired]
theorem eflat_laid (l : List En) (i : Nat) (x : En) (h : i ≤ l.length) : eflat (laid l i x) = (eflat l).take (i * 4) ++ ecells x ++ (eflat l).drop (i * 4) := by
  unfold laid
  rw [eflat_append, eflat_append, eflat_take l i h, eflat_drop l i h]
  rfl

/-- A slice's row is the one that it was, or a new one. -/
def Stays (v v' : Value) (w : World) : Prop := ∀ k, v'.ownBlock = some k → v.ownBlock = some k ∨ w.heap.size ≤ k
theorem stays_of {v : Value} {w : World} {g n c : Nat} (h : v.ownBlock = some g ∨ g = w.heap.size) : Stays v (.slice (some ⟨g, 0, none⟩) n c) w := by
  intro k hk
  simp only [Value.ownBlock, Option.some.injEq] at hk
  rcases h with h | h
  · exact .inl (by rw [h, hk])
  · exact .inr (by omega)

/-- What a row is behind an Insert. -/
theorem ens_laid {B : Nat} {w w' : World} {v v' : Value} {l : List En} {i : Nat} {x : En} (h : EnsIs B w v l) (hi : i ≤ l.length) (hl : l.length < 100000) (hx : x.ac.tup.length ≤ 1000000 ∧ w.ownsRow B 3 1 x.ac.x x.ac.tup.length (x.ac.tup.map (.int .i64)))
    (hg : w.grownBy w' v.ownBlock) (hown : w'.ownsRow B 61 4 v' (l.length + 1) (eflat (laid l i x))) : EnsIs B w' v' (laid l i x) := by
  refine ⟨by rw [laid_length l i x hi]; omega, by rw [laid_length l i x hi]; exact hown, fun e he => ?_⟩
  have key : ∀ c : En, (c.ac.tup.length ≤ 1000000 ∧ w.ownsRow B 3 1 c.ac.x c.ac.tup.length (c.ac.tup.map (.int .i64))) → c.ac.tup.length ≤ 1000000 ∧ w'.ownsRow B 3 1 c.ac.x c.ac.tup.length (c.ac.tup.map (.int .i64)) := fun c hc => by
    refine ⟨hc.1, hc.2.kept hg ?_⟩
    cases hk : Value.ownBlock c.ac.x with
    | none => exact .inl rfl
    | some k => exact .inr fun e => owns_ne (by decide : 61 ≠ 3) h.own hc.2 e.symm hk
  unfold laid at he
  rcases List.mem_append.1 he with hm | hm
  · rcases List.mem_append.1 hm with hm | hm
    · exact key e (h.tups e (List.mem_of_mem_take hm))
    · simp only [List.mem_singleton] at hm
      subst hm
      exact key e hx
  · exact key e (h.tups e (List.mem_of_mem_drop hm))

theorem only_grown {w w' : World} {g : Nat} (h : Only [g] w w') : w.grownBy w' (some g) := ⟨h.os, h.tape, h.output, h.size, fun k hk hne => h.block k hk (by simpa using fun e => hne (by rw [e]))⟩

set_option maxRecDepth 100000 in
set_option maxHeartbeats 2000000 in
theorem insert_any (B vb : Nat) (v : Value) (l : List En) (i : Nat) (x : En) (w : World) (h : EnsIs B w v l) (hi : i ≤ l.length) (hl : l.length < 100000) (hB : B ≤ w.heap.size)
    (hx : w.heap[vb]? = some (.cells #[.int .i64 x.ac.rule, x.ac.x, .int .i64 x.ac.sal, .bool x.fired] 61 (0, 0))) (hvb : v.ownBlock ≠ some vb) (hxt : x.ac.tup.length ≤ 1000000 ∧ w.ownsRow B 3 1 x.ac.x x.ac.tup.length (x.ac.tup.map (.int .i64))) :
    Calls Try.prog 48 #[v, .int .i64 i, .slice (some ⟨vb, 0, none⟩) 1 1] w fun r w' => ∃ v', r = .returned v' ∧ EnsIs B w' v' (laid l i x) ∧ w.grownBy w' v.ownBlock ∧ Stays v v' w := by
  obtain ⟨i0, hi0, hz0, hz1, hz2⟩ := einfo_parts
  have hsz : (Try.prog.info? 61).map (·.size) = some 4 := by rw [hi0]; simp [hz1]
  have hzo : ∀ w, (Go.sizeOf 61).run Try.prog w = .ok 4 w := fun w => by simp [sizeOf, typeInfo, hi0, hz1]
  have hnews : ∀ j u, (ecells x)[j]? = some u → w.cell? ((⟨vb, 0, none⟩ : Addr).add j) = some u := World.news_of_block hx
  obtain ⟨xa, xn, xc, hxx⟩ : ∃ a n c, x.ac.x = .slice a n c := by obtain ⟨a, c, e⟩ := row_form hxt.2; exact ⟨_, _, _, e⟩
  have hone : ∀ u ∈ ecells x, u.oneCell' = true := by
    intro u hu
    simp only [ecells, List.mem_cons, List.not_mem_nil, or_false] at hu
    rcases hu with rfl | rfl | rfl | rfl
    · rfl
    · rw [hxx]; rfl
    · rfl
    · rfl
  have hxl : (ecells x).length = 4 := rfl
  have honel : ∀ u ∈ eflat l, u.oneCell' = true := eflat_one l fun e he => by obtain ⟨a, c, q⟩ := (h.nis he).form; exact ⟨_, _, _, q⟩
  have hlaid := fun w' v' => @ens_laid B w w' v v' l i x h hi hl hxt
  by_cases hin : i = l.length
  · subst hin
    have hfl : eflat (laid l l.length x) = eflat l ++ ecells x := by
      rw [eflat_laid l _ x (Nat.le_refl _), List.take_of_length_le (by rw [eflat_length]; exact Nat.le_refl _), List.drop_eq_nil_of_le (by rw [eflat_length]; exact Nat.le_refl _), List.append_nil]
    have Hfl := hide hfl
    have H := hide h.own
    have Hi0 := hide hi0
    have Hz0 := hide hz0
    have Hz1 := hide hz1
    have Hz2 := hide hz2
    have Hnews := hide hnews
    have Hone := hide hone
    have Hlaid := hide hlaid
    have hown := h.own
    clear hfl hi0 hz0 hz1 hz2 hnews hone hlaid h hx honel hzo hsz hxx hxl
    rcases hown.2 with ⟨rfl, h0⟩ | ⟨g, cap, cur, rfl, _, _, hc, hcm, _⟩
    · clear hown hxt
      have hl0 : l = [] := List.eq_nil_of_length_eq_zero h0
      subst hl0
      go_enter Try.func48, Try.ntmps48
      go_wp2_with (at_builtin; refine wpList_append_lies _ rfl (.tmp 23) (.tmp 24) _ rfl B 61 i0 (.agg #[.int .i64 0, .slice none 0 0, .int .i64 0, .bool false]) 4 48 Try.underlying53 Hi0.out Hz0.out Hz1.out Hz2.out rfl (by decide) (.slice none 0 0) 0 (eflat []) rfl H.out ⟨vb, 0, none⟩ 1 1 (ecells x) rfl rfl Hnews.out Hone.out (by decide) (by unfold maxLen; omega) (by omega) hB w.heap.size rfl ?_; intro g cap' w5 hown5 hgrow hat hlt5)
      have Hg := hide hgrow
      have Ho := hide hown5
      have Hat := hide hat
      clear hgrow hown5 hat hlt5
      go_wp2
      go_ret
      exact ⟨_, rfl, Hlaid.out _ _ Hg.out (by rw [Hfl.out]; exact Ho.out), Hg.out, stays_of Hat.out⟩
    · clear hown hxt
      have hcn : (l.length : Int) ≤ (cap : Int) := by omega
      unfold maxLen at hcm
      by_cases hce : cap = l.length
      · subst hce
        go_enter Try.func48, Try.ntmps48
        go_wp2_with (at_builtin; refine wpList_append_lies _ rfl (.tmp 23) (.tmp 24) _ rfl B 61 i0 (.agg #[.int .i64 0, .slice none 0 0, .int .i64 0, .bool false]) 4 48 Try.underlying53 Hi0.out Hz0.out Hz1.out Hz2.out rfl (by decide) _ l.length (eflat l) rfl H.out ⟨vb, 0, none⟩ 1 1 (ecells x) rfl rfl Hnews.out Hone.out (by decide) (by unfold maxLen; omega) (by omega) hB w.heap.size rfl ?_; intro g cap' w5 hown5 hgrow hat hlt5)
        have Hg := hide hgrow
        have Ho := hide hown5
        have Hat := hide hat
        clear hgrow hown5 hat hlt5
        go_wp2
        go_ret
        exact ⟨_, rfl, Hlaid.out _ _ Hg.out (by rw [Hfl.out]; exact Ho.out), Hg.out, stays_of Hat.out⟩
      · go_enter Try.func48, Try.ntmps48
        go_wp2_with (at_builtin; refine wpList_append_lies _ rfl (.tmp 23) (.tmp 24) _ rfl B 61 i0 (.agg #[.int .i64 0, .slice none 0 0, .int .i64 0, .bool false]) 4 48 Try.underlying53 Hi0.out Hz0.out Hz1.out Hz2.out rfl (by decide) _ l.length (eflat l) rfl H.out ⟨vb, 0, none⟩ 1 1 (ecells x) rfl rfl Hnews.out Hone.out (by decide) (by unfold maxLen; omega) (by omega) hB w.heap.size rfl ?_; intro g cap' w5 hown5 hgrow hat hlt5)
        have Hg := hide hgrow
        have Ho := hide hown5
        have Hat := hide hat
        clear hgrow hown5 hat hlt5
        go_wp2
        go_ret
        exact ⟨_, rfl, Hlaid.out _ _ Hg.out (by rw [Hfl.out]; exact Ho.out), Hg.out, stays_of Hat.out⟩
  · have hil : i < l.length := by omega
    rcases h.own.2 with ⟨rfl, h0⟩ | ⟨g, cap, cur, rfl, hBg, hg, hc, hcm, hcs, hct⟩
    · omega
    have hflen := eflat_length l
    have hne : ¬ ((i : Int) = (l.length : Int)) := by omega
    have hcap : ¬ cap = i := by omega
    unfold maxLen at hcm
    have hgv : g ≠ vb := fun e => hvb (by rw [e]; rfl)
    obtain ⟨cl, rfl⟩ : ∃ cl : List Value, cur = cl.toArray := ⟨cur.toList, by simp⟩
    have hcl : cl.length = cap * 4 := by simpa using hcs
    have hct' : cl.take (l.length * 4) = eflat l := by simpa using hct
    have hsrc : ∀ j u, ((eflat l).drop (i * 4))[j]? = some u → w.cell? ((⟨g, i * 4, none⟩ : Addr).add j) = some u := fun j u hu => by
      rw [List.getElem?_drop] at hu
      have := h.own.cells (g := g) rfl _ u hu
      simpa only [Addr.add_lit, Nat.zero_add] using this
    have hdl : ((eflat l).drop (i * 4)).length = (l.length - i) * 4 := by rw [List.length_drop, hflen]; omega
    have honed : ∀ u ∈ (eflat l).drop (i * 4), u.oneCell' = true := fun u hu => honel u (List.mem_of_mem_drop hu)
    by_cases hroom : l.length + 1 ≤ cap
    · have hov : ∀ lb cb, (callFunc 60 #[.slice (some ⟨vb, 0, none⟩) 1 1, .slice (some ⟨g, (i + 1) * 4, none⟩) lb cb]).run Try.prog w = .ok (.value (.bool false)) w := fun lb cb => by
        rw [run_callFunc_extern Try.func60 (by kernel_rfl) (by kernel_rfl) (by kernel_rfl) (e := Extern.SlicesOverlaps.overlaps #[53, 53] #[4]) (by kernel_rfl),
          Lib.run_overlaps_apart w 53 4 61 Try.underlying53 4 hzo ⟨vb, 0, none⟩ ⟨g, (i + 1) * 4, none⟩ 1 1 lb cb (fun e => hgv e.symm) 61 61 4 (cap * 4) (by simp [World.shape?, hx]) (by simp [World.shape?, hg, hcl]) (by omega) (by simp [World.frozen?, hx]) (by simp [World.frozen?, hx])]
        rfl
      have hres : ∀ w1 w2 : World, Only [g] w w1 → Only [g] w1 w2 → w2.heap[g]? = some (.cells (splice (splice cl ((i + 1) * 4) ((eflat l).drop (i * 4))) (i * 4) (ecells x)).toArray 61 (0, 0)) → EnsIs B w2 (.slice (some ⟨g, 0, none⟩) (l.length + 1) cap) (laid l i x) ∧ w.grownBy w2 (Value.ownBlock (.slice (some ⟨g, 0, none⟩) l.length cap)) ∧ Stays (.slice (some ⟨g, 0, none⟩) l.length cap) (.slice (some ⟨g, 0, none⟩) (l.length + 1) cap) w := fun w1 w2 o1 o2 hw2 => by
        have hgr := only_grown (o1.trans o2)
        refine ⟨hlaid _ _ hgr ⟨by rw [eflat_length, laid_length l i x hi], .inr ⟨g, cap, _, rfl, hBg, hw2, hroom, by unfold maxLen; omega, ?_, ?_⟩⟩, hgr, stays_of (.inl rfl)⟩
        · have e1 := length_splice cl ((i + 1) * 4) ((eflat l).drop (i * 4)) (by rw [hdl, hcl]; omega)
          have e2 := length_splice (splice cl ((i + 1) * 4) ((eflat l).drop (i * 4))) (i * 4) (ecells x) (by rw [e1, hcl, hxl]; omega)
          simp only [List.size_toArray]
          rw [e2, e1, hcl]
        · rw [eflat_laid l i x hi]
          obtain ⟨cs, hcsd⟩ : ∃ cs, (eflat l).drop (i * 4) = cs := ⟨_, rfl⟩
          rw [hcsd] at hdl ⊢
          have e1 : (splice cl ((i + 1) * 4) cs).take (i * 4) = (eflat l).take (i * 4) := by
            rw [splice_before cl _ _ (by rw [hdl, hcl]; omega) (by omega), ← hct', List.take_take, Nat.min_eq_left (by omega)]
          have e2 : ((splice cl ((i + 1) * 4) cs).drop ((i + 1) * 4)).take ((l.length - i) * 4) = cs := by
            unfold splice
            rw [List.drop_append_of_le_length (by simp; omega), List.drop_eq_nil_of_le (by simp; omega), List.nil_append, List.take_append_of_le_length (by omega), List.take_of_length_le (by omega)]
          have e3 : (l.length + 1) * 4 = i * 4 + 4 + (l.length - i) * 4 := by omega
          have e4 : i * 4 + (ecells x).length = (i + 1) * 4 := by rw [hxl]; omega
          obtain ⟨S1, hS1⟩ : ∃ S1, splice cl ((i + 1) * 4) cs = S1 := ⟨_, rfl⟩
          rw [hS1] at e1 e2 ⊢
          simp only
          unfold splice
          rw [e4, e1, e3, ← List.append_assoc, List.take_append, List.take_of_length_le (by simp [hxl]; omega)]
          congr 1
          have : i * 4 + 4 + (l.length - i) * 4 - ((eflat l).take (i * 4) ++ ecells x).length = (l.length - i) * 4 := by simp [hxl, hflen]; omega
          rw [this, e2]
      have hmin1 : Nat.min (l.length + 1 - i) (l.length + 1 - (i + 1)) = l.length - i := by simp only [Nat.min_def]; split <;> omega
      have hmin2 : Nat.min 1 (l.length + 1 - i) = 1 := by simp only [Nat.min_def]; split <;> omega
      have e0 := length_splice cl ((i + 1) * 4) ((eflat l).drop (i * 4)) (by rw [hdl, hcl]; omega)
      have hf1 : (i + 1) * 4 + ((eflat l).drop (i * 4)).length ≤ cl.length := by rw [hdl, hcl]; omega
      have hf2 : i * 4 + (ecells x).length ≤ (splice cl ((i + 1) * 4) ((eflat l).drop (i * 4))).length := by rw [e0, hcl, hxl]; omega
      have hnews1 : ∀ w1, Only [g] w w1 → ∀ j u, (ecells x)[j]? = some u → w1.cell? ((⟨vb, 0, none⟩ : Addr).add j) = some u := fun w1 ho j u hu => by
        have := hnews j u hu
        rw [← this]
        simp only [Addr.add_lit]
        exact ho.cell (p := ⟨vb, 0 + j, none⟩) (lt_of_heap hx) (by simpa using fun e => hgv e.symm)
      have Hres := hide hres
      have Hmin1 := hide hmin1
      have Hmin2 := hide hmin2
      have Hf1 := hide hf1
      have Hf2 := hide hf2
      have Hnews1 := hide hnews1
      have Hov := hide hov
      have Hg := hide hg
      have Hsrc := hide hsrc
      have Hdl := hide hdl
      have Honed := hide honed
      have Hone := hide hone
      have Hsz := hide hsz
      have Hxl := hide hxl
      clear hres hmin1 hmin2 hf1 hf2 hnews1 hg hsrc hdl honed hone hsz hxl hzo honel hlaid hi0 hz0 hz1 hz2 hnews hxx hflen hcl hct hct' hcs e0 h hx hvb hxt
      have hw1 : IntKind.i64.wrap ((i : Int) + 1) = (i : Int) + 1 := IntWalk.i64_in _ (by omega)
      have hb1 : (0 : Int) ≤ (i : Int) + 1 := by omega
      have htn : ((i : Int) + 1).toNat = i + 1 := by omega
      have hb2 : ¬ cap = i + 1 := by omega
      have hb3 : (i : Int) ≤ (l.length : Int) + 1 := by omega
      have hb5 : (i : Int) + 1 ≤ (l.length : Int) + 1 := by omega
      go_enter Try.func48, Try.ntmps48
      go_wp2_with (simp only [hov])
      go_region_law (refine step_copyK rfl (.tmp 73) (.tmp 76) 53 53 rfl 61 4 Try.underlying53 Hsz.out g ((i + 1) * 4) (l.length - i) (cap - (i + 1)) ⟨g, i * 4, none⟩ (l.length + 1 - i) (cap - i) (by simp [Act.eval, Act.put]) (by simp [Act.eval, Act.put]) cl 61 Hg.out ((eflat l).drop (i * 4)) (l.length - i) (by simp only [Nat.min_def]; split <;> omega) Hdl.out Hsrc.out Hf1.out Honed.out ?_; intro w1 hw1' ho1 hz1'; have Hw1 := hide hw1'; have Ho1 := hide ho1; clear hw1' ho1 hz1')
      have Ho1' := hide (show Only [g] w w1 from (Only.drew (Only.refl [g] w)).trans Ho1.out)
      go_wp2_with ((with_reducible refine wpList_copyK rfl (.tmp 80) (.tmp 81) 53 53 rfl 61 4 Try.underlying53 Hsz.out g (i * 4) (l.length + 1 - i) (cap - i) ⟨vb, 0, none⟩ 1 1 rfl rfl (splice cl ((i + 1) * 4) ((eflat l).drop (i * 4))) 61 Hw1.out (ecells x) 1 Hmin2.out Hxl.out (Hnews1.out _ Ho1'.out) Hf2.out Hone.out ?_); intro w2 hw2' ho2 hz2'; have Hw2 := hide hw2'; have Ho2 := hide ho2; clear hw2' ho2 hz2')
      go_wp2
      go_ret
      exact ⟨_, rfl, Hres.out _ _ Ho1'.out Ho2.out Hw2.out⟩
    · have hce : cap = l.length := by omega
      subst hce
      have hkk : (l.length : Int) + 1 - (i : Int) = ((l.length + 1 - i : Nat) : Int) := by omega
      have hik : i + (l.length + 1 - i) = l.length + 1 := by omega
      have htl : ((eflat l).take (i * 4)).length = i * 4 := by rw [List.length_take, hflen]; omega
      have hold : (Builtin.firstCells i0.size i (.slice (some ⟨g, 0, none⟩) i l.length)).run Try.prog w.drew = .ok ((eflat l).take (i * 4)).toArray w.drew := by
        rw [hz1]
        exact run_firstCells_some w.drew 4 i ⟨g, 0, none⟩ i l.length _ htl (fun j u hu => by
          have hj := (List.getElem?_eq_some_iff.1 hu).1
          rw [List.getElem?_take_of_lt (by omega)] at hu
          exact h.own.cells (g := g) rfl _ u hu)
      obtain ⟨G, hG⟩ : ∃ G, grownCap w (l.length + 1) l.length 61 = G := ⟨_, rfl⟩
      have hrz := fun ty => Lib.run_append_grow_zeros (P := Try.prog) w 53 3 ty 61 i0 _ .i64 .i64 Try.underlying53 Try.underlying3 hi0 hz0 (some ⟨g, 0, none⟩) i l.length ((eflat l).take (i * 4)) hold (l.length + 1 - i) (by omega) (by omega) (by omega) (by omega) (by rw [hz2]; omega) (by rw [hz2, hik]; exact growslice_fits (by omega) (by omega))
      rw [hik, ← hkk] at hrz
      rw [hG] at hrz
      have hGn : l.length + 1 ≤ G := by rw [← hG]; exact grownCap_ge w _ _ _
      have hG63 : G ≤ 9223372036854775807 := by
        have := grownCap_le_maxLen w (l.length + 1) l.length 61 (by unfold maxLen; omega)
        rw [hG] at this
        unfold maxLen at this
        omega
      obtain ⟨Z, hZ⟩ : ∃ Z : List Value, ((eflat l).take (i * 4)).toArray ++ Builtin.zeroCells (Value.agg #[.int .i64 0, .slice none 0 0, .int .i64 0, .bool false]).cells (l.length + 1 - i) ++ Builtin.zeroCells (Value.agg #[.int .i64 0, .slice none 0 0, .int .i64 0, .bool false]).cells (G - (l.length + 1)) = Z.toArray := ⟨_, Array.toArray_toList.symm⟩
      have hZl : Z.length = G * 4 := by
        have := congrArg Array.size hZ
        simp only [List.size_toArray] at this
        rw [← this]
        simp [Builtin.zeroCells, Value.cells, hflen]
        omega
      have hZt : Z.take (i * 4) = (eflat l).take (i * 4) := by
        have := congrArg Array.toList hZ
        simp only at this
        rw [← this]
        simp only [Array.toList_append, List.append_assoc]
        rw [List.take_append_of_le_length (by simp [hflen]; omega), List.take_of_length_le (by simp; omega)]
      rw [hZ] at hrz
      obtain ⟨W1, hW1⟩ : ∃ W1, w.drew.alloc (.cells Z.toArray 61) = W1 := ⟨_, rfl⟩
      rw [hW1] at hrz
      have hN1 : W1.heap[w.heap.size]? = some (.cells Z.toArray 61 (0, 0)) := by rw [← hW1]; exact (MapKept.heap_alloc w.drew _).1
      have ho1 : Only [] w W1 := by rw [← hW1]; exact ((Only.refl [] w).drew).alloc _
      have hsz1 : W1.heap.size = w.heap.size + 1 := by rw [← hW1]; simp
      have hnews1 : ∀ j u, (ecells x)[j]? = some u → W1.cell? ((⟨vb, 0, none⟩ : Addr).add j) = some u := fun j u hu => by
        have := hnews j u hu
        rw [← this]
        simp only [Addr.add_lit]
        exact ho1.cell (p := ⟨vb, 0 + j, none⟩) (lt_of_heap hx) (by simp)
      have hgl := lt_of_heap hg
      have hsrc1 : ∀ w2, Only [w.heap.size] W1 w2 → ∀ j u, ((eflat l).drop (i * 4))[j]? = some u → w2.cell? ((⟨g, i * 4, none⟩ : Addr).add j) = some u := fun w2 ho j u hu => by
        have := hsrc j u hu
        rw [← this]
        simp only [Addr.add_lit]
        exact (ho.cell (p := ⟨g, i * 4 + j, none⟩) (by simp only; omega) (by simp; omega)).trans (ho1.cell (p := ⟨g, i * 4 + j, none⟩) hgl (by simp))
      have e0 := length_splice Z (i * 4) (ecells x) (by rw [hZl, hxl]; omega)
      have hf1 : i * 4 + (ecells x).length ≤ Z.length := by rw [hZl, hxl]; omega
      have hf2 : (i + 1) * 4 + ((eflat l).drop (i * 4)).length ≤ (splice Z (i * 4) (ecells x)).length := by rw [e0, hZl, hdl]; omega
      have hres : ∀ w3 : World, Only [w.heap.size] W1 w3 → w3.heap[w.heap.size]? = some (.cells (splice (splice Z (i * 4) (ecells x)) ((i + 1) * 4) ((eflat l).drop (i * 4))).toArray 61 (0, 0)) → EnsIs B w3 (.slice (some ⟨w.heap.size, 0, none⟩) (l.length + 1) G) (laid l i x) ∧ w.grownBy w3 (Value.ownBlock (.slice (some ⟨g, 0, none⟩) l.length l.length)) ∧ Stays (.slice (some ⟨g, 0, none⟩) l.length l.length) (.slice (some ⟨w.heap.size, 0, none⟩) (l.length + 1) G) w := fun w3 o3 hw3 => by
        have ho : Only [] w w3 := ho1.step o3 (by simp)
        have hgr : w.grownBy w3 (Value.ownBlock (.slice (some ⟨g, 0, none⟩) l.length l.length)) := only_grown (ho.mono (by simp))
        refine ⟨hlaid _ _ hgr ⟨by rw [eflat_length, laid_length l i x hi], .inr ⟨w.heap.size, G, _, rfl, hB, hw3, hGn, by unfold maxLen; omega, ?_, ?_⟩⟩, hgr, stays_of (.inr rfl)⟩
        · have e2 := length_splice (splice Z (i * 4) (ecells x)) ((i + 1) * 4) ((eflat l).drop (i * 4)) hf2
          simp only [List.size_toArray]
          rw [e2, e0, hZl]
        · rw [eflat_laid l i x hi]
          have e3 : (l.length + 1) * 4 = (i + 1) * 4 + ((eflat l).drop (i * 4)).length := by rw [hdl]; omega
          have e4 : (i + 1) * 4 = i * 4 + (ecells x).length := by rw [hxl]; omega
          simp only
          rw [e3, splice_take _ _ _ hf2]
          conv => lhs; lhs; rw [e4]
          rw [splice_take _ _ _ hf1, hZt]
      have Hres := hide hres
      have Hf1 := hide hf1
      have Hf2 := hide hf2
      have Hnews1 := hide hnews1
      have Hsrc1 := hide hsrc1
      have Hdl := hide hdl
      have Honed := hide honed
      have Hone := hide hone
      have Hsz := hide hsz
      have Hxl := hide hxl
      have Hrz := hide hrz
      have HN1 := hide hN1
      have hmin2 : Hid (Nat.min 1 (l.length + 1 - i) = 1) := hide (by simp only [Nat.min_def]; split <;> omega)
      clear hres hf1 hf2 hnews1 hsrc1 hg hsrc hdl honed hone hsz hxl hrz hN1 hzo honel hlaid hi0 hz0 hz1 hz2 hnews hxx hflen hcl hct hct' hcs e0 h hx hvb hxt hold hZ hZl hZt hW1 ho1 hsz1 htl hkk hik hG
      have hb0 : (0 : Int) ≤ (l.length : Int) + 1 - (i : Int) := by omega
      have hw1 : IntKind.i64.wrap ((i : Int) + 1) = (i : Int) + 1 := IntWalk.i64_in _ (by omega)
      have hb1 : (0 : Int) ≤ (i : Int) + 1 := by omega
      have htn : ((i : Int) + 1).toNat = i + 1 := by omega
      have hb2 : ¬ G = i := by omega
      have hb4 : ¬ G = i + 1 := by omega
      have hb3 : (i : Int) ≤ (l.length : Int) + 1 := by omega
      have hb5 : (i : Int) + 1 ≤ (l.length : Int) + 1 := by omega
      have hb6 : (l.length : Int) < (l.length : Int) + 1 := by omega
      go_enter Try.func48, Try.ntmps48
      go_wp2_with (first
        | (at_builtin; refine Lib.wpList_append_run _ rfl (.tmp 34) (.tmp 39) _ _ rfl _ _ rfl rfl _ _ (Hrz.out _) ?_)
        | ((with_reducible refine wpList_copyK rfl (.tmp 43) (.tmp 44) 53 53 rfl 61 4 Try.underlying53 Hsz.out w.heap.size (i * 4) (l.length + 1 - i) (G - i) ⟨vb, 0, none⟩ 1 1 rfl rfl Z 61 HN1.out (ecells x) 1 hmin2.out Hxl.out Hnews1.out Hf1.out Hone.out ?_); intro w2 hw2' ho2 hz2'; have Hw2 := hide hw2'; have Ho2 := hide ho2; clear hw2' ho2 hz2'))
      have Ho2d := hide (show Only [w.heap.size] W1 w2.drew from Ho2.out.drew)
      go_region_law (refine step_copyK rfl (.tmp 50) (.tmp 53) 53 53 rfl 61 4 Try.underlying53 Hsz.out w.heap.size ((i + 1) * 4) (l.length - i) (G - (i + 1)) ⟨g, i * 4, none⟩ (l.length - i) (l.length - i) (by simp [Act.eval, Act.put]) (by simp [Act.eval, Act.put]) (splice Z (i * 4) (ecells x)) 61 Hw2.out ((eflat l).drop (i * 4)) (l.length - i) (by simp only [Nat.min_def]; split <;> omega) Hdl.out (Hsrc1.out _ Ho2d.out) Hf2.out Honed.out ?_; intro w3 hw3' ho3 hz3'; have Hw3 := hide hw3'; have Ho3 := hide ho3; clear hw3' ho3 hz3')
      go_wp2
      go_ret
      exact ⟨_, rfl, Hres.out _ (Ho2d.out.trans Ho3.out) Hw3.out⟩
end Go.Proofs.Ytelgajgghgknnaa
