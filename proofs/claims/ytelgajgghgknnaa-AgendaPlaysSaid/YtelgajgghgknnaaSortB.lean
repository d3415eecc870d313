/- The contract of order.Sort. -/
import Derived.Test.YtelgajgghgknnaaSortA
namespace Go.Proofs.Ytelgajgghgknnaa
open Go Go.RowKit Go.MapKept Go.Sort

theorem cells3a {w : World} {b : Nat} {x y z : Value} {t : TypeId} (h : w.heap[b]? = some (.cells #[x, y, z] t (0, 0))) :
    w.cell? ⟨b, 0, none⟩ = some x ∧ w.cell? ⟨b, 1, none⟩ = some y ∧ w.cell? ⟨b, 2, none⟩ = some z ∧ w.frozen? ⟨b, 0, none⟩ = false ∧ w.frozen? ⟨b, 1, none⟩ = false ∧ w.frozen? ⟨b, 2, none⟩ = false := by
  simp [World.cell?, World.frozen?, h]

theorem row_form {w : World} {B n sz : Nat} {e : TypeId} {v : Value} {xs : List Value} (h : w.ownsRow B e sz v n xs) : ∃ a c, v = .slice a n c := by
  rcases h.2 with ⟨rfl, q⟩ | ⟨g, cap, cur, rfl, _⟩
  · exact ⟨none, 0, by rw [q]⟩
  · exact ⟨_, _, rfl⟩

theorem owns_base {w : World} {B B' n sz : Nat} {e : TypeId} {v : Value} {xs : List Value} (h : w.ownsRow B e sz v n xs) (hB : B' ≤ B) : w.ownsRow B' e sz v n xs := by
  refine ⟨h.1, ?_⟩
  rcases h.2 with q | ⟨g, cap, cur, e, hb, r⟩
  · exact .inl q
  · exact .inr ⟨g, cap, cur, e, Nat.le_trans hB hb, r⟩
theorem OutIs.base {B B' : Nat} {w : World} {v : Value} {l : List Ac} (h : OutIs B w v l) (hB : B' ≤ B) : OutIs B' w v l := ⟨owns_base h.own hB, fun a ha => ⟨(h.tups a ha).1, owns_base (h.tups a ha).2 hB⟩⟩

/-- The order of what activations say. -/
def cmpC (s : Int) (a b : Co) : Int := cmpA s ⟨a.rule, a.tup, a.sal, .slice none 0 0⟩ ⟨b.rule, b.tup, b.sal, .slice none 0 0⟩
theorem cmpA_co (s : Int) (a b : Ac) : cmpA s a b = cmpC s a.co b.co := rfl
theorem cmpC_cmp (s : Int) : Cmp (cmpC s) := (cmp_act s).on (fun a : Co => (⟨a.rule, a.tup, a.sal, .slice none 0 0⟩ : Ac))
theorem cmpC_zero (s : Int) (a b : Co) : cmpC s a b = 0 ↔ a = b := by
  unfold cmpC
  rw [cmpA_zero]
  constructor
  · rintro ⟨h1, h2, h3⟩
    cases a
    cases b
    simp_all
  · rintro rfl
    exact ⟨rfl, rfl, rfl⟩
/-- Activations in their order. -/
def sortC (s : Int) (l : List Co) : List Co := l.mergeSort (fun a b => decide (cmpC s a b ≤ 0))

theorem sortC_unique (s : Int) {l m : List Co} (hp : m.Perm l) (hs : m.Pairwise (fun a b => cmpC s a b ≤ 0)) : m = sortC s l := by
  have hc := cmpC_cmp s
  refine List.Perm.eq_of_pairwise (le := fun x y => cmpC s x y ≤ 0) ?_ hs ?_ (hp.trans (List.mergeSort_perm _ _).symm)
  · intro a b _ _ h1 h2
    have := hc.anti a b
    exact (cmpC_zero s a b).1 (by omega)
  · have := List.pairwise_mergeSort (le := fun x y : Co => decide (cmpC s x y ≤ 0)) (fun a b c h1 h2 => by simp only [decide_eq_true_eq] at *; exact hc.trans a b c h1 h2) (fun a b => by have := hc.anti a b; simp; omega) l
    exact this.imp fun h => by simpa using h
theorem sortC_perm (s : Int) (l : List Co) : (sortC s l).Perm l := List.mergeSort_perm _ _
theorem sortC_sorted (s : Int) (l : List Co) : (sortC s l).Pairwise (fun a b => cmpC s a b ≤ 0) := by
  have hc := cmpC_cmp s
  have := List.pairwise_mergeSort (le := fun x y : Co => decide (cmpC s x y ≤ 0)) (fun a b c h1 h2 => by simp only [decide_eq_true_eq] at *; exact hc.trans a b c h1 h2) (fun a b => by have := hc.anti a b; simp; omega) l
  exact this.imp fun h => by simpa using h

/-- v is a slice of activations that was made from block B on; their tuples may be written. -/
structure ResIs (B : Nat) (w : World) (v : Value) (l : List Ac) : Prop where
  acts : ActsIs w v l
  fresh : NNew B v
  tups : ∀ a ∈ l, w.ownsRow B 3 1 a.x a.tup.length (a.tup.map (.int .i64))
  apart : ∀ a ∈ l, ∀ k, a.x.ownBlock = some k → v.ownBlock ≠ some k
  cap : CapOk v

theorem res_nil (B : Nat) (w : World) : ResIs B w (.slice none 0 0) [] := ⟨⟨by simp, .inr ⟨rfl, .inl rfl⟩, by simp⟩, (fun _ _ _ e => by cases e), by simp, by simp, Nat.le_refl _⟩

theorem rowOf_out {B : Nat} {w : World} {g cap n : Nat} {l : List Ac} (hn : l.length = n) (h : OutIs B w (.slice (some ⟨g, 0, none⟩) n cap) l) : RowOf w g 0 l.toArray := by
  intro i hi
  have hi' : i < l.length := by simpa using hi
  rw [getElem!_pos l.toArray i hi]
  simp only [List.getElem_toArray]
  obtain ⟨h0, h1, h2⟩ := aflat_get l i hi'
  have c := h.own.cells (g := g) rfl
  have c0 := c _ _ h0
  have c1 := c _ _ h1
  have c2 := c _ _ h2
  simp only [Addr.add_lit] at c0 c1 c2
  have hf : ∀ o, w.frozen? ⟨g, o, none⟩ = false := fun o => by
    rcases h.own.2 with ⟨e, _⟩ | ⟨g', cap', cur, e, _, hg, _⟩
    · cases e
    · cases e
      simp [World.frozen?, hg]
  obtain ⟨xa, xc, hx⟩ := row_form (h.tups _ (List.getElem_mem hi')).2
  refine ⟨⟨c0, ?_, ?_⟩, ⟨hf _, hf _, hf _⟩, _, _, _, hx⟩
  · rw [show 0 + i * 3 + 1 = 0 + (i * 3 + 1) by omega]; exact c1
  · rw [show 0 + i * 3 + 2 = 0 + (i * 3 + 2) by omega]; exact c2

theorem at_out {B : Nat} {w : World} {g cap n : Nat} {l : List Ac} (hn : l.length = n) (h : OutIs B w (.slice (some ⟨g, 0, none⟩) n cap) l) : At (GoodAc g w) w g 0 n l.toArray w := by
  have hg := (h.own.lt g rfl).2
  refine ⟨by simpa using hn, rowOf_out hn h, Only.refl _ _, fun i hi => ?_, hg⟩
  have hi' : i < l.length := by omega
  rw [getElem!_pos l.toArray i (by simpa using hi')]
  simp only [List.getElem_toArray]
  intro W hW
  obtain ⟨h1, h2⟩ := h.tups _ (List.getElem_mem hi')
  exact NIs.of_row h1 (owns_only h2 hW fun k hk => by
    have := owns_ne (by decide : 3 ≠ 27) h2 h.own hk
    simp only [Value.ownBlock, ne_eq, Option.some.injEq] at this
    simpa using fun e => this e.symm)

theorem sorted_res {B : Nat} {st : Int} {w w' : World} {g cap n : Nat} {l : List Ac} {d' : Array Ac} (hn : l.length = n) (hl : n ≤ 1000000) (h : OutIs B w (.slice (some ⟨g, 0, none⟩) n cap) l) (hS : Sorted (fun x y => decide (cmpA st x y < 0)) l.toArray d' n) (hA : At (GoodAc g w) w g 0 n d' w') :
    ResIs B w' (.slice (some ⟨g, 0, none⟩) n cap) d'.toList ∧ d'.toList.map Ac.co = sortC st (l.map Ac.co) ∧ d'.toList.length = n := by
  have hsz := hA.size
  have hperm : d'.toList.Perm l := by
    have := hS.1.2.2
    have e1 : d'.extract 0 n = d' := by rw [← hsz]; exact Array.extract_size
    have e2 : l.toArray.extract 0 n = l.toArray := by rw [show n = l.toArray.size by simpa using hn.symm]; exact Array.extract_size
    rw [e1, e2] at this
    simpa using this
  have hmem : ∀ a ∈ d'.toList, a ∈ l := fun a ha => hperm.subset ha
  have htup : ∀ a ∈ d'.toList, a.tup.length ≤ 1000000 ∧ w'.ownsRow B 3 1 a.x a.tup.length (a.tup.map (.int .i64)) ∧ ∀ k, a.x.ownBlock = some k → k ≠ g := fun a ha => by
    obtain ⟨h1, h2⟩ := h.tups a (hmem a ha)
    have hne : ∀ k, a.x.ownBlock = some k → k ≠ g := fun k hk => by
      have := owns_ne (by decide : 3 ≠ 27) h2 h.own hk
      simp only [Value.ownBlock, ne_eq, Option.some.injEq] at this
      exact fun e => this e.symm
    exact ⟨h1, owns_only h2 hA.only fun k hk => by simpa using hne k hk, hne⟩
  refine ⟨⟨⟨by simp [hsz]; omega, .inl ⟨g, 0, cap, by simp [hsz], fun i hi => ?_⟩, fun a ha => NIs.of_row (htup a ha).1 (htup a ha).2.1⟩, fun a n' c e hn' => ?_, fun a ha => (htup a ha).2.1, fun a ha k hk e => ?_, ?_⟩, ?_, by simp [hsz]⟩
  · have hi' : i < d'.size := by simpa using hi
    have := (hA.row i hi').1
    rw [getElem!_pos d' i hi'] at this
    simpa using this
  · cases e
    exact (h.own.lt g rfl).1
  · simp only [Value.ownBlock, Option.some.injEq] at e
    exact (htup a ha).2.2 k hk e.symm
  · rcases h.own.2 with ⟨e, _⟩ | ⟨g', cap', cur, e, _, _, hc, _⟩
    · cases e
    · cases e
      exact hc
  · refine sortC_unique st (hperm.map _) ?_
    rw [List.pairwise_map, List.pairwise_iff_getElem]
    intro i j hi hj hij
    have hi' : i < d'.size := by simpa using hi
    have hj' : j < d'.size := by simpa using hj
    have := hS.2 i j (Nat.zero_le _) hij (by omega)
    rw [getElem!_pos d' j hj', getElem!_pos d' i hi'] at this
    have q : ¬ cmpA st d'[j] d'[i] < 0 := by simpa using this
    have := (cmp_act st).anti d'[i] d'[j]
    show cmpC st (d'.toList[i]).co (d'.toList[j]).co ≤ 0
    rw [← cmpA_co]
    simp only [Array.getElem_toList]
    omega

set_option maxRecDepth 100000 in
set_option maxHeartbeats 2000000 in
theorem sort_any (s : Int) (v : Value) (l : List Ac) (w : World) (h : ActsIs w v l) :
    Calls Try.prog 49 #[.int .u8 s, v] w fun e w' => ∃ v' l', e = .returned v' ∧ ResIs w.heap.size w' v' l' ∧ l'.map Ac.co = sortC s (l.map Ac.co) ∧ Below w.heap.size w w' := by
  obtain ⟨va, vc, rfl⟩ := h.form
  have hlen := h.len
  obtain ⟨i0, hi, hz0, hz1, hz2⟩ := ainfo_parts
  have H := hide h
  have Hi := hide hi
  have Hz0 := hide hz0
  have Hz1 := hide hz1
  have Hz2 := hide hz2
  clear h hi hz0 hz1 hz2
  go_enter Try.func49, Try.ntmps49
  go_wp2_with fail
  go_loopw [5, 10] (fun vo vi wr => ∃ (k : Nat) (lk : List Ac) (la : Option Addr) (lc : Nat), k ≤ l.length ∧ vi = .int .i64 k ∧ vo = .slice la k lc ∧ Hid (lk.length = k ∧ OutIs (w.heap.size + 1) wr (.slice la k lc) lk ∧ lk.map Ac.co = (l.take k).map Ac.co ∧ wr.heap[w.heap.size]? = some (.cells #[.int .u8 s] 5 (0, 0)) ∧ Below w.heap.size w wr)) (fun _ i _ => l.length - (intOf i).toNat)
  case atStart => exact ⟨0, [], none, 0, Nat.zero_le _, rfl, rfl, rfl, ⟨World.ownsRow_nil _ _ _ _, by simp⟩, by simp, (MapKept.heap_alloc w _).1, (Below.refl _ _).alloc (Nat.le_refl _) _⟩
  case round =>
    obtain ⟨k, lk, la, lc, hk, rfl, rfl, hq⟩ := hrel
    by_cases hlt : k < l.length
    · have hL := H.out.below hq.out.2.2.2.2
      obtain ⟨b, off, cap, xa, xc, e, hx, c0, c1, c2⟩ := hL.at hlt
      injection e with e1 e2 e3
      subst e1 e3
      clear e2
      have hnis := hL.tups _ (List.getElem_mem hlt)
      obtain ⟨A, hA⟩ : ∃ A, l[k] = A := ⟨_, rfl⟩
      rw [hA] at hx c0 c1 c2 hnis
      obtain ⟨ru, tu, sa, ax⟩ := A
      simp only at hx c0 c1 c2 hnis
      subst hx
      have HA := hide hA
      have oB : Only [] wr (wr.alloc (Obj.cells #[.int .i64 ru, .slice xa tu.length xc, .int .i64 sa] 27)) := (Only.refl [] _).alloc _
      have Hcl := hide (nclone (.slice xa tu.length xc) tu _ (hnis.below oB.below))
      have hbox := (MapKept.heap_alloc wr (Obj.cells #[.int .i64 ru, .slice xa tu.length xc, .int .i64 sa] 27)).1
      have Hbox := hide hbox
      have OB := hide oB
      have hnl := hide hnis.1
      clear hL hnis hA hbox oB
      go_wp2_with fail
      refine Hcl.out.mono ?_
      rintro e w2 ⟨nv, rfl, hrow, hb2⟩
      obtain ⟨na, nc, rfl⟩ := row_form hrow
      obtain ⟨d0, d1, d2, f0, f1, f2⟩ := cells3a ((hb2.block wr.heap.size (by simp)).trans Hbox.out)
      have hsz2 : wr.heap.size < w2.heap.size := by have := hb2.size; simp at this; omega
      obtain rfl := hq.out.1
      have B3 : Below wr.heap.size wr (w2.setCell ⟨wr.heap.size, 1, none⟩ (.slice na tu.length nc)) := (OB.out.below.trans (hb2.mono (by simp))).setCell (Nat.le_refl _) _
      have hz3 : (w2.setCell ⟨wr.heap.size, 1, none⟩ (.slice na tu.length nc)).heap.size = w2.heap.size := by simp [World.setCell]
      have hwr : w.heap.size + 1 ≤ wr.heap.size := lt_of_heap hq.out.2.2.2.1
      have x3 := owns_base (owns_only (S := [wr.heap.size]) hrow ((Only.refl _ _).setCell (p := ⟨wr.heap.size, 1, none⟩) (.inl (by simp)) (.slice na tu.length nc)) (fun k hk => by have := (hrow.lt k hk).1; simp at this ⊢; omega)) (B' := w.heap.size + 1) (by simp; omega)
      have hown := (hq.out.2.1.below (B3.alloc (by rw [hz3]; omega) (Obj.cells #[.int .i64 ru, .slice na tu.length nc, .int .i64 sa] 27))).own
      have X3 := hide (x3.alloc (Obj.cells #[.int .i64 ru, .slice na tu.length nc, .int .i64 sa] 27))
      have HB4 := hide (B3.alloc (by rw [hz3]; omega) (Obj.cells #[.int .i64 ru, .slice na tu.length nc, .int .i64 sa] 27))
      have Hnews := hide (World.news_of_block (cs := #[.int .i64 ru, .slice na tu.length nc, .int .i64 sa]) (t := 27) (fr := (0, 0)) (heap_alloc_new (w2.setCell ⟨wr.heap.size, 1, none⟩ (.slice na tu.length nc)) (Obj.cells #[.int .i64 ru, .slice na tu.length nc, .int .i64 sa] 27)))
      rw [hz3] at Hnews
      have Hown := hide hown
      have Hz3 := hide hz3
      clear hrow hb2 B3 hz3 x3 hown
      go_wp2_with (at_builtin; refine wpList_append_lies _ rfl _ _ _ rfl (w.heap.size + 1) 27 i0 (.agg #[.int .i64 0, .slice none 0 0, .int .i64 0]) 3 40 Try.underlying22 Hi.out Hz0.out Hz1.out Hz2.out rfl (by decide) (.slice la lk.length lc) lk.length (aflat lk) rfl Hown.out ⟨w2.heap.size, 0, none⟩ 1 1 [.int .i64 ru, .slice na tu.length nc, .int .i64 sa] rfl rfl Hnews.out (by simp [Value.oneCell']) (by decide) (by unfold maxLen; omega) (by omega) (by simp; omega) (w2.heap.size + 1) (by simp) ?_; intro g cap' w5 hown5 hgrow hat hlt5)
      have hrowB := row_own Hown.out
      have hnew := OutIs.snoc (a := ⟨ru, tu, sa, .slice na tu.length nc⟩) hq.out.2.1 HB4.out ⟨hnl.out, X3.out⟩ hown5 hgrow
      have hstep : Hid ((lk ++ [(⟨ru, tu, sa, .slice na tu.length nc⟩ : Ac)]).length = lk.length + 1 ∧ OutIs (w.heap.size + 1) w5 (.slice (some ⟨g, 0, none⟩) (lk.length + 1) cap') (lk ++ [(⟨ru, tu, sa, .slice na tu.length nc⟩ : Ac)]) ∧ (lk ++ [(⟨ru, tu, sa, .slice na tu.length nc⟩ : Ac)]).map Ac.co = (l.take (lk.length + 1)).map Ac.co ∧ w5.heap[w.heap.size]? = some (.cells #[.int .u8 s] 5 (0, 0)) ∧ Below w.heap.size w w5) := by
        have hb5 : Below w.heap.size w _ := hq.out.2.2.2.2.trans (HB4.out.mono (by omega))
        refine ⟨by simp, hnew, ?_, ?_, hb5.grown hgrow (by simp; omega) (fun k hk => by have := hrowB k hk; omega)⟩
        · rw [List.map_append, hq.out.2.2.1, List.take_succ_eq_append_getElem hlt, List.map_append, HA.out]
          rfl
        · exact (hgrow.block w.heap.size (by simp; omega) (fun e => by have := hrowB _ e.symm; omega)).trans ((HB4.out.block w.heap.size (by omega)).trans hq.out.2.2.2.1)
      clear hnew hrowB hgrow hat hown5
      go_roundw
      case rel => exact ⟨lk.length + 1, _, _, cap', by omega, by go_num, rfl, hstep.out⟩
      case measure => simp [intOf]; omega
    · obtain rfl : k = l.length := by omega
      have hlk := hide hq.out.1
      rcases hq.out.2.1.own.2 with ⟨e, h0⟩ | ⟨g, cap, cur, e, hbg, hg, _⟩
      · injection e with e1 e2 e3
        subst e1 e3
        have hl0 : l = [] := List.eq_nil_of_length_eq_zero e2
        have HL0 := hide hl0
        rw [e2]
        clear e2 h0 hl0
        go_wp2_with fail
        refine (stablef_none _ _).mono ?_
        rintro e w' ⟨rfl, rfl⟩
        go_wp2
        refine bodyPost_ret (v := .slice none 0 0) (by simp [results, Try.results49, go_sem, *]) rfl ?_
        refine ⟨_, [], rfl, res_nil _ _, by rw [HL0.out]; simp [sortC], hq.out.2.2.2.2⟩
      · injection e with e1 e2 e3
        subst e1 e3
        clear e2
        have hbg' := hide hbg
        have Hps := hide (cell1 hq.out.2.2.2.1)
        have Hat := hide (at_out hlk.out hq.out.2.1)
        · go_wp2_with fail
          refine (stablef_any s w.heap.size g _ l.length _ wr Hps.out (by have := hbg'.out; omega) hlen Hat.out).mono ?_
          rintro e w' ⟨rfl, d', h1, h2⟩
          obtain ⟨r1, r2, r3⟩ := sorted_res hlk.out hlen hq.out.2.1 h1 h2
          have R1 := hide (show ResIs w.heap.size w' _ d'.toList from ⟨r1.acts, fun a n c e hn => by have := r1.fresh a n c e hn; omega, fun a ha => owns_base (r1.tups a ha) (by omega), r1.apart, r1.cap⟩)
          have R2 := hide r2
          have HB := hide (below_only hq.out.2.2.2.2 h2.only (by simp; have := hbg'.out; omega) hq.out.2.2.2.2.size)
          clear h1 h2 r1 r2 r3
          go_wp2
          go_ret
          exact ⟨_, d'.toList, rfl, R1.out, by rw [R2.out, hq.out.2.2.1, List.take_length], HB.out⟩
end Go.Proofs.Ytelgajgghgknnaa
