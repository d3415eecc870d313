/- The walk of witanlaw26.OrderSorts. -/
import Derived.Test.YteealadflekffabRSort
import Derived.Deep.DeepCutAuto
namespace Go.Proofs.Yteealadflekffab
open Go Go.RowKit Go.MapKept Go.Sort

theorem ActsD.below {w w' : World} {v : Value} {l : List ActD} (h : ActsD w v l) (hb : Below w.heap.size w w') : ActsD w' v l := by
  refine ⟨h.1, ?_⟩
  rcases h.2 with ⟨b, off, cap, e, hi⟩ | q
  · refine .inl ⟨b, off, cap, e, fun i hil => ?_⟩
    obtain ⟨h0, h1, h2, h3, h4⟩ := hi i hil
    exact ⟨(hb.cell (p := ⟨b, off + i * 3, none⟩) (lt_of_cell h0)).trans h0, (hb.cell (p := ⟨b, off + i * 3 + 1, none⟩) (lt_of_cell h1)).trans h1, (hb.cell (p := ⟨b, off + i * 3 + 2, none⟩) (lt_of_cell h2)).trans h2, h3, fun hn => ⟨(h4 hn).1, (h4 hn).2.below hb⟩⟩
  · exact .inr q

theorem heap3 (w : World) (o1 o2 o3 : Obj) : ∃ W, ((w.alloc o1).alloc o2).alloc o3 = W ∧ W.heap[w.heap.size]? = some o1 ∧ W.heap[w.heap.size + 1]? = some o2 ∧ W.heap[w.heap.size + 1 + 1]? = some o3 ∧ W.heap.size = w.heap.size + 3 ∧ Below w.heap.size w W := by
  refine ⟨_, rfl, ?_, ?_, ?_, by simp, ?_⟩
  · rw [Below.heap_alloc _ _ _ (by simp <;> omega), Below.heap_alloc _ _ _ (by simp <;> omega), (MapKept.heap_alloc w o1).1]
  · rw [Below.heap_alloc _ _ _ (by simp <;> omega)]
    simpa using (MapKept.heap_alloc (w.alloc o1) o2).1
  · simpa using (MapKept.heap_alloc ((w.alloc o1).alloc o2) o3).1
  · exact (((Below.refl _ _).alloc (Nat.le_refl _) _).alloc (by simp) _).alloc (by simp; omega) _

/-- A cell of a row of ints is written over: all rows of ints stay such. -/
theorem row_poke {w : World} {B n k g : Nat} {z : Int} {x : Value} {t : List Int} (h : w.ownsRow B 3 1 x n (t.map (.int .i64))) :
    ∃ t' : List Int, (w.setCell ⟨g, k, none⟩ (.int .i64 z)).ownsRow B 3 1 x n (t'.map (.int .i64)) := by
  have hl := h.1
  rcases h.2 with ⟨rfl, hn⟩ | ⟨g', cap, cur, rfl, hb, hg, h1, h2, h3, h4⟩
  · exact ⟨t, hl, .inl ⟨rfl, hn⟩⟩
  · by_cases hgg : g' = g
    · subst hgg
      refine ⟨t.set k z, by simpa using hl, .inr ⟨g', cap, cur.setIfInBounds k (.int .i64 z), rfl, hb, setCell_heap hg, h1, h2, by simpa using h3, ?_⟩⟩
      rw [Array.toList_setIfInBounds, List.take_set, h4, List.map_set]
    · exact ⟨t, hl, .inr ⟨g', cap, cur, rfl, hb, (Below.heap_setCell _ _ _ _ hgg).trans hg, h1, h2, h3, h4⟩⟩

/-- What is told may be written over: the row's cells stand, and each tuple is a row of ints of its length. -/
def Spoils (B : Nat) (v : Value) (l : List Ac) (w : World) : Prop :=
  (∀ i (h : i < l.length), ∃ b off cap xa xc, v = .slice (some ⟨b, off, none⟩) l.length cap ∧ l[i].x = .slice xa l[i].tup.length xc ∧ w.cell? ⟨b, off + i * 3 + 1, none⟩ = some (.slice xa l[i].tup.length xc)) ∧
  (∀ a ∈ l, ∃ t : List Int, w.ownsRow B 3 1 a.x a.tup.length (t.map (.int .i64)) ∧ ∀ k, a.x.ownBlock = some k → v.ownBlock ≠ some k)

theorem ResIs.spoils {B : Nat} {w : World} {v : Value} {l : List Ac} (h : ResIs B w v l) : Spoils B v l w :=
  ⟨fun i hi => by obtain ⟨b, off, cap, xa, xc, e, hx, _, c1, _⟩ := h.acts.at hi; exact ⟨b, off, cap, xa, xc, e, hx, c1⟩, fun a ha => ⟨a.tup, h.tups a ha, h.apart a ha⟩⟩
theorem Spoils.below {B : Nat} {w w' : World} {v : Value} {l : List Ac} (h : Spoils B v l w) (hb : Below w.heap.size w w') : Spoils B v l w' :=
  ⟨fun i hi => by obtain ⟨b, off, cap, xa, xc, e, hx, c1⟩ := h.1 i hi; exact ⟨b, off, cap, xa, xc, e, hx, (hb.cell (p := ⟨b, off + i * 3 + 1, none⟩) (lt_of_cell c1)).trans c1⟩,
    fun a ha => by obtain ⟨t, h1, h2⟩ := h.2 a ha; exact ⟨t, owns_below h1 hb, h2⟩⟩
theorem Spoils.poke {B : Nat} {w : World} {v : Value} {l : List Ac} (h : Spoils B v l w) {a : Ac} (ha : a ∈ l) {g o n c k : Nat} (hx : a.x = .slice (some ⟨g, o, none⟩) n c) (z : Int) : Spoils B v l (w.setCell ⟨g, k, none⟩ (.int .i64 z)) := by
  refine ⟨fun i hi => ?_, fun b hb => ?_⟩
  · obtain ⟨b, off, cap, xa, xc, e, hx', c1⟩ := h.1 i hi
    obtain ⟨t, _, h2⟩ := h.2 a ha
    have hne : b ≠ g := fun q => by
      subst q
      exact h2 b (by rw [hx]; rfl) (by rw [e]; rfl)
    exact ⟨b, off, cap, xa, xc, e, hx', (World.cell?_of_block (w := w) (Below.heap_setCell _ _ _ _ hne)).trans c1⟩
  · obtain ⟨t, h1, h2⟩ := h.2 b hb
    obtain ⟨t', h1'⟩ := row_poke (g := g) (k := k) (z := z) h1
    exact ⟨t', h1', h2⟩
theorem Spoils.at {B : Nat} {w : World} {v : Value} {l : List Ac} (h : Spoils B v l w) {i : Nat} (hi : i < l.length) {k : Nat} (hk : k < l[i].tup.length) : ∃ b off cap g xc z, v = .slice (some ⟨b, off, none⟩) l.length cap ∧ l[i].x = .slice (some ⟨g, 0, none⟩) l[i].tup.length xc ∧ B ≤ g ∧ l[i].tup.length ≤ xc ∧ xc ≤ maxLen ∧
    w.cell? ⟨b, off + i * 3 + 1, none⟩ = some (.slice (some ⟨g, 0, none⟩) l[i].tup.length xc) ∧ w.cell? ⟨g, k, none⟩ = some (.int .i64 z) ∧ w.frozen? ⟨g, k, none⟩ = false := by
  obtain ⟨b, off, cap, xa, xc, e, hx, c1⟩ := h.1 i hi
  obtain ⟨t, h1, h2⟩ := h.2 _ (List.getElem_mem hi)
  rcases h1.2 with ⟨hn, h0⟩ | ⟨g, cap', cur, e', hb, hg, hc1, hc2, hc3, hc4⟩
  · omega
  · rw [hx] at e'
    cases e'
    have hl : t.length = l[i].tup.length := by have := h1.1; simpa using this
    have hz : (t.map (Value.int .i64))[k]? = some (.int .i64 t[k]) := by simp [hl, hk]
    have hcell := h1.cells (g := g) (by rw [hx]; rfl) k _ hz
    simp only [Addr.add_lit, Nat.zero_add] at hcell
    exact ⟨b, off, cap, g, xc, _, e, hx, hb, hc1, hc2, c1, hcell, by simp [World.frozen?, hg]⟩

theorem NIs.news {w : World} {x : Value} {l : List Int} (h : NIs w x l) : (l = [] ∧ x = .slice none 0 0) ∨ ∃ ad c, x = .slice (some ad) l.length c ∧ ∀ j u, (l.map (Value.int .i64))[j]? = some u → w.cell? (ad.add j) = some u := by
  obtain ⟨hl, ⟨b, off, cap, rfl, hi⟩ | ⟨rfl, rfl | ⟨a, cap, rfl⟩⟩⟩ := h
  · refine .inr ⟨_, _, rfl, fun j u hu => ?_⟩
    have hj : j < l.length := by have := (List.getElem?_eq_some_iff.1 hu).1; simpa using this
    simp only [List.getElem?_map, List.getElem?_eq_getElem hj, Option.map_some, Option.some.injEq] at hu
    rw [← hu]
    simpa only [Addr.add_lit] using hi j hj
  · exact .inl ⟨rfl, rfl⟩
  · exact .inr ⟨_, _, rfl, fun j u hu => by simp at hu⟩

theorem box_step {B : Nat} {wr wB w2 : World} {ru su : Int} {n0 : Nat} {tu : List Int} {xa na la : Option Addr} {xc nc lc : Nat} {lk : List Ac} (hO : Only [] wr wB) (hbox : wB.heap[wr.heap.size]? = some (Obj.cells #[.int .i64 ru, .slice xa n0 xc, .int .i64 su] 28)) (hz : wB.heap.size = wr.heap.size + 1)
    (hb2 : Below wB.heap.size wB w2) (hrow : w2.ownsRow wB.heap.size 3 1 (.slice na tu.length nc) tu.length (tu.map (.int .i64))) (hout : OutIs B wr (.slice la lk.length lc) lk) (hB : B ≤ wr.heap.size) :
    (w2.cell? ⟨wr.heap.size, 0, none⟩ = some (.int .i64 ru) ∧ w2.cell? ⟨wr.heap.size, 1, none⟩ = some (.slice xa n0 xc) ∧ w2.cell? ⟨wr.heap.size, 2, none⟩ = some (.int .i64 su) ∧ w2.frozen? ⟨wr.heap.size, 0, none⟩ = false ∧ w2.frozen? ⟨wr.heap.size, 1, none⟩ = false ∧ w2.frozen? ⟨wr.heap.size, 2, none⟩ = false) ∧ wr.heap.size < w2.heap.size ∧
    ((w2.setCell ⟨wr.heap.size, 1, none⟩ (.slice na tu.length nc)).alloc (Obj.cells #[.int .i64 ru, .slice na tu.length nc, .int .i64 su] 28)).ownsRow B 3 1 (.slice na tu.length nc) tu.length (tu.map (.int .i64)) ∧
    Below wr.heap.size wr ((w2.setCell ⟨wr.heap.size, 1, none⟩ (.slice na tu.length nc)).alloc (Obj.cells #[.int .i64 ru, .slice na tu.length nc, .int .i64 su] 28)) ∧
    (∀ j u, [.int .i64 ru, .slice na tu.length nc, .int .i64 su][j]? = some u → ((w2.setCell ⟨wr.heap.size, 1, none⟩ (.slice na tu.length nc)).alloc (Obj.cells #[.int .i64 ru, .slice na tu.length nc, .int .i64 su] 28)).cell? ((⟨w2.heap.size, 0, none⟩ : Addr).add j) = some u) ∧
    ((w2.setCell ⟨wr.heap.size, 1, none⟩ (.slice na tu.length nc)).alloc (Obj.cells #[.int .i64 ru, .slice na tu.length nc, .int .i64 su] 28)).ownsRow B 28 3 (.slice la lk.length lc) lk.length (aflat lk) := by
  have hsz2 : wr.heap.size < w2.heap.size := by have := hb2.size; omega
  have B3 : Below wr.heap.size wr (w2.setCell ⟨wr.heap.size, 1, none⟩ (.slice na tu.length nc)) := (hO.below.trans (hb2.mono (by omega))).setCell (Nat.le_refl _) _
  have hz3 : (w2.setCell ⟨wr.heap.size, 1, none⟩ (.slice na tu.length nc)).heap.size = w2.heap.size := by simp [World.setCell]
  have x3 := owns_base (owns_only (S := [wr.heap.size]) hrow ((Only.refl _ _).setCell (p := ⟨wr.heap.size, 1, none⟩) (.inl (by simp)) (.slice na tu.length nc)) (fun k hk => by have := (hrow.lt k hk).1; simp; omega)) (B' := B) (by omega)
  have hB4 := B3.alloc (by rw [hz3]; omega) (Obj.cells #[.int .i64 ru, .slice na tu.length nc, .int .i64 su] 28)
  refine ⟨cells3a ((hb2.block wr.heap.size (by omega)).trans hbox), hsz2, x3.alloc _, hB4, ?_, (hout.below hB4).own⟩
  have := World.news_of_block (cs := #[.int .i64 ru, .slice na tu.length nc, .int .i64 su]) (t := 28) (fr := (0, 0)) (heap_alloc_new (w2.setCell ⟨wr.heap.size, 1, none⟩ (.slice na tu.length nc)) (Obj.cells #[.int .i64 ru, .slice na tu.length nc, .int .i64 su] 28))
  rw [hz3] at this
  exact this

set_option maxRecDepth 100000 in
set_option maxHeartbeats 4000000 in
theorem sorts_walk (s : Int) (v va vb : Value) (l : List ActD) (w : World) (ra : Int) (aa : Option Addr) (na ca : Nat) (sa : Int) (rb : Int) (ab : Option Addr) (nb cb : Nat) (sb : Int)
    (h : ActsD w v l) (ha : ActIs w va ra aa na ca sa) (hb : ActIs w vb rb ab nb cb sb) :
    Calls Try.prog 4 #[.int .u8 s, v, va, vb] w fun e w' => e = .returned (.bool true) ∧ Below w.heap.size w w' := by
  obtain ⟨rfl, hna, hxa⟩ := ha
  obtain ⟨rfl, hnb, hxb⟩ := hb
  obtain ⟨W, hW, h1, h2, h3, hsz, hbW⟩ := heap3 w (Obj.cells #[.int .i64 ra, .slice aa na ca, .int .i64 sa] 28) (Obj.cells #[.int .i64 rb, .slice ab nb cb, .int .i64 sb] 28) (Obj.cells #[.int .i64 ra, .slice aa na ca, .int .i64 sa, .int .i64 rb, .slice ab nb cb, .int .i64 sb] 28)
  have hb2 : Below w.heap.size w ((w.alloc (Obj.cells #[.int .i64 ra, .slice aa na ca, .int .i64 sa] 28)).alloc (Obj.cells #[.int .i64 rb, .slice ab nb cb, .int .i64 sb] 28)) := ((Below.refl _ _).alloc (Nat.le_refl _) _).alloc (by simp) _
  have Hg1 := hide (greatD_any v l 60 (by omega) _ (h.below hb2))
  have Hg2 := hide (great_any (w.heap.size + 1 + 1) 0 2 [(aa, na, ca), (ab, nb, cb)] 2 W (by simp) (fun i hi => by
    match i, hi with
    | 0, _ => exact cellAt (i := 1) h3 rfl
    | 1, _ => exact cellAt (i := 4) h3 rfl))
  have Hb2 := hide hb2
  have Hxa := hide hxa
  have Hxb := hide hxb
  have HW := hide hW
  have H1 := hide h1
  have H2 := hide h2
  have BW := hide hbW
  clear hW h1 h2 h3 hbW hb2 hxa hxb
  obtain ⟨la0, vc, rfl⟩ := h.form
  cases hgr : greatD l 60 with
  | true =>
    rw [hgr] at Hg1
    clear hgr
    go_enter Try.func4, Try.ntmps4
    go_wp2_with fail
    refine Hg1.out.mono ?_
    rintro e w' ⟨rfl, rfl⟩
    go_wp2_with (go_at_call 6; refine (known_walk _).mono ?_; rintro e w' ⟨rfl, hk⟩)
    go_ret
    exact ⟨rfl, Hb2.out.trans (hk.mono (by simp; omega))⟩
  | false =>
    rw [hgr] at Hg1
    obtain ⟨hl60, hn20⟩ := greatD_false hgr
    clear hgr
    have hL := h.acts (by omega) (fun g hg => Nat.le_trans (hn20 g hg) (by omega))
    have hcapL := h.1.2
    obtain ⟨L, hLe⟩ : ∃ L, l.map ActD.ac = L := ⟨_, rfl⟩
    rw [hLe] at hL
    have hlen : l.length = L.length := by rw [← hLe]; simp
    rw [hlen] at hL hl60 hcapL ⊢
    have HL := hide (hL.below BW.out)
    have hN : L.length ≤ 60 := by omega
    have hcl : L.length ≤ vc := hcapL
    rw [hlen] at Hg1
    clear h hn20 hLe hL hl60 hlen hcapL
    go_enter Try.func4, Try.ntmps4
    go_wp2_with fail
    refine Hg1.out.mono ?_
    rintro e w' ⟨rfl, rfl⟩
    clear Hg1
    go_wp2_with fail
    rw [HW.out]
    refine Hg2.out.mono ?_
    rintro e w' ⟨rfl, hw⟩
    rw [hw]
    clear hw
    by_cases hbig : 20 < na ∨ 20 < nb
    · have hg : great (List.map (fun x : Option Addr × Nat × Nat => x.2.1) [(aa, na, ca), (ab, nb, cb)]) 2 = true := by
        unfold great
        simp only [List.map_cons, List.map_nil, List.any_cons, List.any_nil, Bool.or_false, Bool.or_eq_true, decide_eq_true_eq]
        omega
      rw [hg]
      clear hg
      go_wp2_with (go_at_call 6; refine (known_walk _).mono ?_; rintro e w' ⟨rfl, hk⟩)
      go_ret
      exact ⟨rfl, BW.out.trans (hk.mono (by omega))⟩
    have hg : great (List.map (fun x : Option Addr × Nat × Nat => x.2.1) [(aa, na, ca), (ab, nb, cb)]) 2 = false := by
      unfold great
      simp
      omega
    rw [hg]
    clear hg Hg2
    obtain ⟨ta, hta, hxa⟩ := Hxa.out (by omega)
    obtain ⟨tb, htb, hxb⟩ := Hxb.out (by omega)
    have HA := hide (hxa.below BW.out)
    have HB := hide (hxb.below BW.out)
    clear hxa hxb Hxa Hxb
    have z1 : w.heap.size < W.heap.size := by omega
    have z2 : w.heap.size + 1 < W.heap.size := by omega
    have a0 : W.cell? ⟨w.heap.size, 0, none⟩ = some (.int .i64 ra) := cellAt (i := 0) H1.out rfl
    have a1 : W.cell? ⟨w.heap.size, 1, none⟩ = some (.slice aa na ca) := cellAt (i := 1) H1.out rfl
    have a2 : W.cell? ⟨w.heap.size, 2, none⟩ = some (.int .i64 sa) := cellAt (i := 2) H1.out rfl
    have b0 : W.cell? ⟨w.heap.size + 1, 0, none⟩ = some (.int .i64 rb) := cellAt (i := 0) H2.out rfl
    have b1 : W.cell? ⟨w.heap.size + 1, 1, none⟩ = some (.slice ab nb cb) := cellAt (i := 1) H2.out rfl
    have b2 : W.cell? ⟨w.heap.size + 1, 2, none⟩ = some (.int .i64 sb) := cellAt (i := 2) H2.out rfl
    have Cells : Hid (∀ V, Below W.heap.size W V → V.cell? ⟨w.heap.size, 0, none⟩ = some (.int .i64 ra) ∧ V.cell? ⟨w.heap.size, 1, none⟩ = some (.slice aa na ca) ∧ V.cell? ⟨w.heap.size, 2, none⟩ = some (.int .i64 sa) ∧ V.cell? ⟨w.heap.size + 1, 0, none⟩ = some (.int .i64 rb) ∧ V.cell? ⟨w.heap.size + 1, 1, none⟩ = some (.slice ab nb cb) ∧ V.cell? ⟨w.heap.size + 1, 2, none⟩ = some (.int .i64 sb)) := fun V hV =>
      ⟨(hV.cell (p := ⟨w.heap.size, 0, none⟩) z1).trans a0, (hV.cell (p := ⟨w.heap.size, 1, none⟩) z1).trans a1, (hV.cell (p := ⟨w.heap.size, 2, none⟩) z1).trans a2, (hV.cell (p := ⟨w.heap.size + 1, 0, none⟩) z2).trans b0, (hV.cell (p := ⟨w.heap.size + 1, 1, none⟩) z2).trans b1, (hV.cell (p := ⟨w.heap.size + 1, 2, none⟩) z2).trans b2⟩
    obtain ⟨A, hA⟩ : ∃ A : Ac, A = ⟨ra, ta, sa, .slice aa na ca⟩ := ⟨_, rfl⟩
    obtain ⟨B, hB⟩ : ∃ B : Ac, B = ⟨rb, tb, sb, .slice ab nb cb⟩ := ⟨_, rfl⟩
    have NA : NIs W A.x A.tup := by rw [hA]; exact HA.out
    have NB : NIs W B.x B.tup := by rw [hB]; exact HB.out
    have hab : ∀ V, Below W.heap.size W V → Calls Try.prog 10 #[.int .u8 s, A.val, B.val] V fun e w' => e = .returned (.bool (decide (cmpA s A B < 0))) ∧ Below W.heap.size W w' := fun V hb =>
      (rahead_any s A B V (NA.below hb) (NB.below hb)).mono fun e w' ⟨h1, h2⟩ => ⟨h1, hb.trans (h2.mono hb.size)⟩
    have hba : ∀ V, Below W.heap.size W V → Calls Try.prog 10 #[.int .u8 s, B.val, A.val] V fun e w' => e = .returned (.bool (decide (cmpA s B A < 0))) ∧ Below W.heap.size W w' := fun V hb =>
      (rahead_any s B A V (NB.below hb) (NA.below hb)).mono fun e w' ⟨h1, h2⟩ => ⟨h1, hb.trans (h2.mono hb.size)⟩
    have hcm : ∀ V, Below W.heap.size W V → Calls Try.prog 9 #[.int .u8 s, A.val, B.val] V fun e w' => e = .returned (.int .i64 (cmpA s A B)) ∧ Below W.heap.size W w' ∧ Below V.heap.size V w' := fun V hb =>
      (compare_any s A B V (NA.below hb) (NB.below hb)).mono fun e w' ⟨h1, h2⟩ => ⟨h1, hb.trans (h2.mono hb.size), h2⟩
    have hsm : ∀ V, Below W.heap.size W V → Calls Try.prog 14 #[A.val, B.val] V fun e w' => e = .returned (.bool (decide (A.rule = B.rule ∧ A.tup = B.tup))) ∧ Below W.heap.size W w' := fun V hb =>
      (same_act A B V (NA.below hb) (NB.below hb)).mono fun e w' ⟨h1, h2⟩ => ⟨h1, hb.trans (h2.mono hb.size)⟩
    have hrs : ∀ V, Below W.heap.size W V → Calls Try.prog 15 #[A.val, B.val] V fun e w' => e = .returned (.bool (decide (A.rule = B.rule ∧ A.tup = B.tup))) ∧ Below W.heap.size W w' := fun V hb =>
      (rsame_any A B V (NA.below hb) (NB.below hb)).mono fun e w' ⟨h1, h2⟩ => ⟨h1, hb.trans (h2.mono hb.size)⟩
    rw [(cmp_act s).anti A B] at hba
    have hr := cmpA_range s A B
    obtain ⟨x, hx⟩ : ∃ x, cmpA s A B = x := ⟨_, rfl⟩
    rw [hx] at hab hba hcm hr
    obtain ⟨p, hp⟩ : ∃ p, decide (x < 0) = p := ⟨_, rfl⟩
    obtain ⟨q, hq⟩ : ∃ q, decide (-x < 0) = q := ⟨_, rfl⟩
    obtain ⟨sm, hsm'⟩ : ∃ sm, decide (A.rule = B.rule ∧ A.tup = B.tup) = sm := ⟨_, rfl⟩
    rw [hp] at hab
    rw [hq] at hba
    rw [hsm'] at hsm hrs
    have P1 : Hid (p = true → -1 = x) := fun e => by rw [e] at hp; have := of_decide_eq_true hp; omega
    have P2 : Hid (p = false → q = true → 1 = x) := fun e e' => by rw [e] at hp; rw [e'] at hq; have := of_decide_eq_false hp; have := of_decide_eq_true hq; omega
    have P3 : Hid (p = false → q = false → 0 = x) := fun e e' => by rw [e] at hp; rw [e'] at hq; have := of_decide_eq_false hp; have := of_decide_eq_false hq; omega
    rw [hA, hB] at hab hba hcm hsm hrs
    simp only [Ac.val] at hab hba hcm hsm hrs
    have Hab := hide hab; have Hba := hide hba; have Hcm := hide hcm; have Hsm := hide hsm; have Hrs := hide hrs
    clear hab hba hcm hsm hrs hA hB NA NB hx hp hq hr hsm' hta htb hbig
    go_upto_if 29 with (go_at_call 10; refine (Hab.out _ (Below.refl _ _)).mono ?_; rintro e V ⟨rfl, hbV⟩)
    go_cut [9] from 30 to 33 (fun s9 wx => s9 = .int .i64 x ∧ Hid (Below W.heap.size W wx))
    case first =>
      obtain ⟨d0, d1, d2, d3, d4, d5⟩ := Cells.out V hbV
      have HbV := hide hbV
      clear hbV a0 a1 a2 b0 b1 b2
      cases p
      · have P2' := hide (P2.out rfl)
        have P3' := hide (P3.out rfl)
        clear P1 P2 P3
        go_wp2_with fail
        refine (Hba.out _ HbV.out).mono ?_
        rintro e V2 ⟨rfl, hbV2⟩
        have HbV2 := hide hbV2
        clear hbV2
        cases q
        · have E := hide (P3'.out rfl)
          clear P2' P3'
          go_wp2
          go_meet
          case rel => exact ⟨congrArg (Value.int .i64) E.out, HbV2.out⟩
        · have E := hide (P2'.out rfl)
          clear P2' P3'
          go_wp2
          go_meet
          case rel => exact ⟨congrArg (Value.int .i64) E.out, HbV2.out⟩
      · have E := hide (P1.out rfl)
        clear P1 P2 P3
        go_wp2
        go_meet
        case rel => exact ⟨congrArg (Value.int .i64) E.out, HbV.out⟩
    case rest =>
      obtain ⟨rfl, hbx⟩ := hcut
      obtain ⟨d0, d1, d2, d3, d4, d5⟩ := Cells.out wc hbx.out
      have Hvec := hide (vector_any s _ ta wc (HA.out.below hbx.out))
      clear a0 a1 a2 b0 b1 b2 P1 P2 P3 Hab Hba H1 H2
      go_wp2_with fail
      refine Hvec.out.mono ?_
      rintro e V3 ⟨vv, rfl, hv, _, hb3⟩
      obtain ⟨vva, vvc, rfl⟩ := hv.form
      clear d0 d1 d2 d3 d4 d5 Hvec
      have B3 := hide (hbx.out.trans (hb3.mono hbx.out.size))
      have B3d : Hid (Below W.heap.size W V3.drew) := hide ⟨B3.out.os, B3.out.tape, B3.out.output, B3.out.size, B3.out.block⟩
      have Hv := hide (hv.below (Only.drew (Only.refl [] V3)).below)
      have hrvec : ∀ V, Below W.heap.size W V → Below V3.drew.heap.size V3.drew V → Calls Try.prog 13 #[.int .u8 s, .slice aa na ca] V fun e w' => ∃ v' c', e = .returned (.slice v' (vec s ta).length c') ∧ NIs w' (.slice v' (vec s ta).length c') (vec s ta) ∧ Below V3.drew.heap.size V3.drew w' ∧ Below W.heap.size W w' := fun V hb h3 =>
        (rvector_any s _ ta V (HA.out.below hb)).mono fun e w' ⟨v', h1, h2, h3'⟩ => by
          obtain ⟨a', c', rfl⟩ := h2.form
          exact ⟨a', c', h1, h2, h3.trans (h3'.mono h3.size), hb.trans (h3'.mono hb.size)⟩
      have hrows : ∀ V, Below W.heap.size W V → Below V3.drew.heap.size V3.drew V → ∀ v' c', NIs V (.slice v' (vec s ta).length c') (vec s ta) → Calls Try.prog 12 #[.slice vva (vec s ta).length vvc, .slice v' (vec s ta).length c'] V fun e w' => e = .returned (.int .i64 0) ∧ Below W.heap.size W w' := fun V hb h3 v' c' hn =>
        (rows_any _ _ (vec s ta) (vec s ta) V (Hv.out.below h3) hn).mono fun e w' ⟨h1, h2⟩ => ⟨by rw [h1, (cmpL_zero _ _).2 rfl], hb.trans (h2.mono hb.size)⟩
      have Hrvec := hide hrvec
      have Hrows := hide hrows
      clear hv hb3 hrvec hrows hbx
      obtain ⟨d0, d1, d2, d3, d4, d5⟩ := Cells.out V3 B3.out
      have q1 : (x != x) = false := by simp
      have q2 : (sm != sm) = false := by simp
      go_wp2_with fail
      go_region_held3 (fun V => V.cell? ⟨w.heap.size, 0, none⟩ = some (.int .i64 ra) ∧ V.cell? ⟨w.heap.size, 1, none⟩ = some (.slice aa na ca) ∧ V.cell? ⟨w.heap.size, 2, none⟩ = some (.int .i64 sa) ∧ V.cell? ⟨w.heap.size + 1, 0, none⟩ = some (.int .i64 rb) ∧ V.cell? ⟨w.heap.size + 1, 1, none⟩ = some (.slice ab nb cb) ∧ V.cell? ⟨w.heap.size + 1, 2, none⟩ = some (.int .i64 sb)) (go_keep)
        (first
          | (go_at_call 9; have hq := Hcm.out _ B3d.out; with_reducible refine Calls.mono hq ?_; clear hq; rintro e V4 ⟨rfl, hb4, hb4'⟩; obtain ⟨e0, e1, e2, e3, e4, e5⟩ := Cells.out V4 hb4; have B4 := hide hb4; have B4' := hide hb4'; clear hb4 hb4')
          | (go_at_call 13; have hq := Hrvec.out _ B4.out B4'.out; with_reducible refine Calls.mono hq ?_; clear hq; rintro e V5 ⟨v5, c5, rfl, hv5, hb5, hb5'⟩; obtain ⟨f0, f1, f2, f3, f4, f5⟩ := Cells.out V5 hb5'; have B5 := hide hb5'; have B5' := hide hb5; have Hv5 := hide hv5; clear hb5 hb5' hv5)
          | (go_at_call 12; have hq := Hrows.out _ B5.out B5'.out _ _ Hv5.out; with_reducible refine Calls.mono hq ?_; clear hq; rintro e V6 ⟨rfl, hb6⟩; obtain ⟨g0, g1, g2, g3, g4, g5⟩ := Cells.out V6 hb6; have B6 := hide hb6; clear hb6)
          | (go_at_call 14; have hq := Hsm.out _ B6.out; with_reducible refine Calls.mono hq ?_; clear hq; rintro e V7 ⟨rfl, hb7⟩; obtain ⟨k0, k1, k2, k3, k4, k5⟩ := Cells.out V7 hb7; have B7 := hide hb7; clear hb7)
          | (go_at_call 15; have hq := Hrs.out _ B7.out; with_reducible refine Calls.mono hq ?_; clear hq; rintro e V8 ⟨rfl, hb8⟩; obtain ⟨m0, m1, m2, m3, m4, m5⟩ := Cells.out V8 hb8; have B8 := hide hb8; clear hb8))
      have HLx := hide (HL.out.below B8.out)
      have B8' := hide (BW.out.trans (B8.out.mono (by omega)))
      clear e0 e1 e2 e3 e4 e5 f0 f1 f2 f3 f4 f5 g0 g1 g2 g3 g4 g5 k0 k1 k2 k3 k4 k5 m0 m1 m2 m3 m4 m5 d0 d1 d2 d3 d4 d5 q1 q2 Hrvec Hrows Hcm Hsm Hrs B3 B3d B4 B4' B5 B5' B6 B7 Hv Hv5 HA HB Cells HL HW
      obtain ⟨i0, hi, hz0, hz1, hz2⟩ := ainfo_parts
      obtain ⟨j0, hj, hy0, hy1, hy2⟩ := int_parts
      have Hi := hide hi
      have Hz0 := hide hz0
      have Hz1 := hide hz1
      have Hz2 := hide hz2
      have Hj := hide hj
      have Hy0 := hide hy0
      have Hy1 := hide hy1
      have Hy2 := hide hy2
      clear hi hz0 hz1 hz2 hj hy0 hy1 hy2
      go_wp2_with fail
      go_loopw [11, 64] (fun vo vi wr => ∃ (k : Nat) (lk : List Ac) (la : Option Addr) (lc : Nat), k ≤ L.length ∧ vi = .int .i64 k ∧ vo = .slice la k lc ∧ Hid (lk.length = k ∧ OutIs V8.heap.size wr (.slice la k lc) lk ∧ lk.map Ac.co = (L.take k).map Ac.co ∧ Below V8.heap.size V8 wr)) (fun _ i _ => L.length - (intOf i).toNat)
      case atStart => exact ⟨0, [], none, 0, Nat.zero_le _, rfl, rfl, rfl, ⟨World.ownsRow_nil _ _ _ _, by simp⟩, by simp, Below.refl _ _⟩
      case round =>
        obtain ⟨k, lk, la, lc, hk, rfl, rfl, hq⟩ := hrel
        by_cases hlt : k < L.length
        · have hLr := HLx.out.below hq.out.2.2.2
          obtain ⟨b, off, cap, xa, xc, e, hx, c0, c1, c2⟩ := hLr.at hlt
          injection e with e1 e2 e3
          subst e1 e3
          clear e2
          have hnis := hLr.tups _ (List.getElem_mem hlt)
          obtain ⟨A, hA⟩ : ∃ A, L[k] = A := ⟨_, rfl⟩
          rw [hA] at hx c0 c1 c2 hnis
          obtain ⟨ru, tu, su, ax⟩ := A
          simp only at hx c0 c1 c2 hnis
          subst hx
          have HA := hide hA
          obtain ⟨wB, hwB⟩ : ∃ wB, wr.alloc (Obj.cells #[.int .i64 ru, .slice xa tu.length xc, .int .i64 su] 28) = wB := ⟨_, rfl⟩
          have oB : Only [] wr wB := by rw [← hwB]; exact (Only.refl [] _).alloc _
          have hbox : wB.heap[wr.heap.size]? = some (Obj.cells #[.int .i64 ru, .slice xa tu.length xc, .int .i64 su] 28) := by rw [← hwB]; exact (MapKept.heap_alloc wr _).1
          have hzB : wB.heap.size = wr.heap.size + 1 := by rw [← hwB]; simp
          have hnl := hide hnis.1
          have hnisB := hnis.below oB.below
          have o1 : Below wB.heap.size wB (wB.alloc (.cells #[] 3)) := (Below.refl _ _).alloc (Nat.le_refl _) _
          have hown0 : (wB.alloc (.cells #[] 3)).ownsRow wB.heap.size 3 1 (.slice (some ⟨wB.heap.size, 0, none⟩) 0 0) 0 [] := World.ownsRow_made wB #[] 0 (Nat.le_refl _) (by decide) rfl
          have hcase := (hnisB.below o1).news
          have hsz1 : (wB.alloc (.cells #[] 3)).heap.size = wB.heap.size + 1 := by simp
          have hlB : wr.heap.size < wB.heap.size := by omega
          obtain ⟨y0, y1, y2, _, _, _⟩ := cells3a hbox
          have HwB := hide hwB
          have OB := hide oB
          have Hbox := hide hbox
          have HzB := hide hzB
          have O1 := hide o1
          have Hown0 := hide hown0
          have Hsz1 := hide hsz1
          have hn1 : tu.length ≤ 1000000 := hnl.out
          have Hcase := hide hcase
          clear hLr hnis hA hbox oB hwB hzB hnisB o1 hown0 hcase hsz1
          obtain rfl := hq.out.1
          have hwr : V8.heap.size ≤ wr.heap.size := hq.out.2.2.2.size
          rcases Hcase.out with ⟨ht0, e⟩ | ⟨ad, cc, e, hnews⟩
          · subst ht0
            obtain ⟨rfl, rfl⟩ : xa = none ∧ xc = 0 := by cases e; exact ⟨rfl, rfl⟩
            clear e
            rw [List.length_nil] at HwB Hbox y1 c1
            obtain ⟨w2, hw2⟩ : ∃ w2, wB.alloc (.cells #[] 3) = w2 := ⟨_, rfl⟩
            have hown0 := Hown0.out
            have hb2 := O1.out
            rw [hw2] at hown0 hb2
            have T : Hid _ := hide (box_step (tu := []) OB.out Hbox.out HzB.out hb2 hown0 hq.out.2.1 hq.out.2.2.2.size)
            rw [List.length_nil] at T
            obtain ⟨⟨d0, d1, d2, f0, f1, f2⟩, hlt2, _⟩ := T.out
            have Hw2 := hide hw2
            obtain ⟨na, hna⟩ : ∃ na : Option Addr, some ⟨wB.heap.size, 0, none⟩ = na := ⟨_, rfl⟩
            rw [hna] at T
            have Hna := hide hna
            clear hown0 hb2 hw2 hna
            go_upto_region 15 with fail
            rw [HwB.out]
            go_wp2_with (first
              | (at_builtin; refine wpList_append_own_none rfl (.tmp 68) (.tmp 70) _ rfl wB.heap.size 3 j0 1 Try.underlying26 Hj.out (.slice (some ⟨wB.heap.size, 0, none⟩) 0 0) 0 [] rfl Hown0.out rfl ?_; rw [Hw2.out, Hna.out])
              | (at_builtin; refine wpList_append_lies _ rfl (.tmp 73) (.tmp 75) _ rfl V8.heap.size 28 i0 (.agg #[.int .i64 0, .slice none 0 0, .int .i64 0]) 3 40 Try.underlying22 Hi.out Hz0.out Hz1.out Hz2.out rfl (by decide) (.slice la lk.length lc) lk.length (aflat lk) rfl T.out.2.2.2.2.2 ⟨w2.heap.size, 0, none⟩ 1 1 [.int .i64 ru, .slice na 0 0, .int .i64 su] rfl rfl T.out.2.2.2.2.1 (by simp [Value.oneCell']) (by decide) (by unfold maxLen; omega) (by omega) (by simp; omega) (w2.heap.size + 1) (by simp) ?_; intro g cap' w5 hown5 hgrow hat hlt5; have Hown5 := hide hown5; have Hgrow := hide hgrow; clear hown5 hgrow hat hlt5))
            have hrowB := row_own T.out.2.2.2.2.2
            have hb4 := T.out.2.2.2.1
            have hnew := OutIs.snoc (a := ⟨ru, [], su, .slice na 0 0⟩) hq.out.2.1 hb4 ⟨hnl.out, T.out.2.2.1⟩ Hown5.out Hgrow.out
            have hstep : Hid ((lk ++ [(⟨ru, [], su, .slice na 0 0⟩ : Ac)]).length = lk.length + 1 ∧ OutIs V8.heap.size w5 (.slice (some ⟨g, 0, none⟩) (lk.length + 1) cap') (lk ++ [(⟨ru, [], su, .slice na 0 0⟩ : Ac)]) ∧ (lk ++ [(⟨ru, [], su, .slice na 0 0⟩ : Ac)]).map Ac.co = (L.take (lk.length + 1)).map Ac.co ∧ Below V8.heap.size V8 w5) := by
              have hwr : V8.heap.size ≤ wr.heap.size := hq.out.2.2.2.size
              have hb5 : Below V8.heap.size V8 _ := hq.out.2.2.2.trans (hb4.mono (by omega))
              refine ⟨by simp, hnew, ?_, hb5.grown Hgrow.out (by simp; omega) (fun k hk => by have := hrowB k hk; omega)⟩
              rw [List.map_append, hq.out.2.2.1, List.take_succ_eq_append_getElem hlt, List.map_append, HA.out]
              rfl
            clear hnew hrowB hb4
            go_roundw
            case rel => exact ⟨lk.length + 1, _, _, cap', by omega, by go_num, rfl, hstep.out⟩
            case measure => simp [intOf]; omega
          · obtain ⟨rfl, rfl⟩ : xa = some ad ∧ xc = cc := by cases e; exact ⟨rfl, rfl⟩
            have Hnews1 := hide hnews
            clear e hnews
            go_upto_region 15 with fail
            rw [HwB.out]
            go_wp2_with (first
              | (at_builtin; refine wpList_append_own _ rfl (.tmp 68) (.tmp 70) _ rfl wB.heap.size 3 j0 (.int .i64 0) 1 8 Try.underlying26 Hj.out Hy0.out Hy1.out Hy2.out rfl (by decide) (.slice (some ⟨wB.heap.size, 0, none⟩) 0 0) 0 [] rfl Hown0.out ad tu.length xc (tu.map (.int .i64)) rfl (by simp) Hnews1.out (by intro u hu; obtain ⟨z, _, rfl⟩ := List.mem_map.1 hu; rfl) (by unfold maxLen; omega) (by omega) (by rw [Hsz1.out]; omega) ?_; intro v1 w2 hrow hgrow1 _; simp only [Nat.zero_add, List.nil_append] at hrow; obtain ⟨na, nc, rfl⟩ := row_form hrow; have T := hide (box_step OB.out Hbox.out HzB.out (O1.out.grown hgrow1 (by simp) (fun k e => by simp [Value.ownBlock] at e; omega)) hrow hq.out.2.1 hq.out.2.2.2.size); obtain ⟨⟨d0, d1, d2, f0, f1, f2⟩, hlt2, _⟩ := T.out; clear hrow hgrow1)
              | (at_builtin; refine wpList_append_lies _ rfl (.tmp 73) (.tmp 75) _ rfl V8.heap.size 28 i0 (.agg #[.int .i64 0, .slice none 0 0, .int .i64 0]) 3 40 Try.underlying22 Hi.out Hz0.out Hz1.out Hz2.out rfl (by decide) (.slice la lk.length lc) lk.length (aflat lk) rfl T.out.2.2.2.2.2 ⟨w2.heap.size, 0, none⟩ 1 1 [.int .i64 ru, .slice na tu.length nc, .int .i64 su] rfl rfl T.out.2.2.2.2.1 (by simp [Value.oneCell']) (by decide) (by unfold maxLen; omega) (by omega) (by simp; omega) (w2.heap.size + 1) (by simp) ?_; intro g cap' w5 hown5 hgrow hat hlt5; have Hown5 := hide hown5; have Hgrow := hide hgrow; clear hown5 hgrow hat hlt5))
            have hrowB := row_own T.out.2.2.2.2.2
            have hb4 := T.out.2.2.2.1
            have hnew := OutIs.snoc (a := ⟨ru, tu, su, .slice na tu.length nc⟩) hq.out.2.1 hb4 ⟨hnl.out, T.out.2.2.1⟩ Hown5.out Hgrow.out
            have hstep : Hid ((lk ++ [(⟨ru, tu, su, .slice na tu.length nc⟩ : Ac)]).length = lk.length + 1 ∧ OutIs V8.heap.size w5 (.slice (some ⟨g, 0, none⟩) (lk.length + 1) cap') (lk ++ [(⟨ru, tu, su, .slice na tu.length nc⟩ : Ac)]) ∧ (lk ++ [(⟨ru, tu, su, .slice na tu.length nc⟩ : Ac)]).map Ac.co = (L.take (lk.length + 1)).map Ac.co ∧ Below V8.heap.size V8 w5) := by
              have hwr : V8.heap.size ≤ wr.heap.size := hq.out.2.2.2.size
              have hb5 : Below V8.heap.size V8 _ := hq.out.2.2.2.trans (hb4.mono (by omega))
              refine ⟨by simp, hnew, ?_, hb5.grown Hgrow.out (by simp; omega) (fun k hk => by have := hrowB k hk; omega)⟩
              rw [List.map_append, hq.out.2.2.1, List.take_succ_eq_append_getElem hlt, List.map_append, HA.out]
              rfl
            clear hnew hrowB hb4
            go_roundw
            case rel => exact ⟨lk.length + 1, _, _, cap', by omega, by go_num, rfl, hstep.out⟩
            case measure => simp [intOf]; omega
        · obtain rfl : k = L.length := by omega
          obtain ⟨w9, rfl⟩ : ∃ w9 : World, w9 = wr := ⟨_, rfl⟩
          have hlkL := hq.out.1
          have hco1 : lk.map Ac.co = L.map Ac.co := by rw [hq.out.2.2.1, List.take_length]
          have hin : ActsIs w9 (.slice la L.length lc) lk := by
            have := ActsIs.of_owns (by omega) hq.out.2.1.own (fun a ha => NIs.of_row (hq.out.2.1.tups a ha).1 (hq.out.2.1.tups a ha).2)
            exact this
          have HB9 := hide (B8'.out.trans (hq.out.2.2.2.mono (by have := B8'.out.size; omega)))
          have HLr := hide (HLx.out.below hq.out.2.2.2)
          have Hso := hide (sort_any s _ lk w9 hin)
          have Hin := hide hin
          have Hco1 := hide hco1
          clear hq hin hco1 hlkL
          go_wp2_with fail
          refine Hso.out.mono ?_
          rintro e w1 ⟨v1, S, rfl, hres, hco, hb1⟩
          obtain ⟨sa', sc, rfl⟩ := hres.acts.form
          have hcapS : S.length ≤ sc := hres.cap
          have Hres := hide hres
          have Hco := hide hco
          have Hb1 := hide hb1
          have HRs := hide (rsort_any s _ L w1 (HLr.out.below hb1))
          clear hres hco hb1 Hso
          go_wp2_with fail
          refine HRs.out.mono ?_
          rintro e w2 ⟨v2, R, rfl, hR, hcoR, hb2⟩
          obtain ⟨ra', rc, rfl⟩ := hR.form
          have hsm := sameAll_any _ _ S R w2 (Hres.out.acts.below hb2) hR
          rw [Hco.out, hcoR, Hco1.out, decide_eq_true rfl] at hsm
          have Hsm := hide hsm
          have HSp2 := hide (Hres.out.spoils.below hb2)
          have Hb2' := hide (Hb1.out.trans (hb2.mono Hb1.out.size))
          have hS1 : S.length ≤ 1000000 := Hres.out.acts.len
          have HT := hide (fun i (h : i < S.length) => (Hres.out.acts.tups _ (List.getElem_mem h)).1)
          clear hR hcoR hb2 hsm HRs Hres Hco Hb1
          go_wp2_with fail
          refine Hsm.out.mono ?_
          rintro e w3 ⟨rfl, hb3⟩
          have HSp := hide (HSp2.out.below hb3)
          have Hb3 := hide (Hb2'.out.trans (hb3.mono Hb2'.out.size))
          clear hb3 HSp2 Hb2' Hsm
          go_wp2_with fail
          go_loopw [89] (fun vi wx => ∃ i : Nat, i ≤ S.length ∧ vi = .int .i64 i ∧ Hid (Below w9.heap.size w9 wx ∧ Spoils w9.heap.size (.slice sa' S.length sc) S wx)) (fun i _ => S.length - (intOf i).toNat)
          case atStart => exact ⟨0, Nat.zero_le _, rfl, Hb3.out, HSp.out⟩
          case round =>
            obtain ⟨i, hiS, rfl, hq2⟩ := hrel
            obtain ⟨wo, rfl⟩ : ∃ wo : World, wo = wr := ⟨_, rfl⟩
            by_cases hlt : i < S.length
            · obtain ⟨b, off, cap, xa, xc, e, hx, c1⟩ := hq2.out.2.1 i hlt
              injection e with e1 e2 e3
              subst e1 e3
              clear e2 hx
              have hT1 := HT.out i hlt
              go_wp2_with fail
              go_loopw [98] (fun vk wx => ∃ k : Nat, k ≤ S[i].tup.length ∧ vk = .int .i64 k ∧ Hid (Below w9.heap.size w9 wx ∧ Spoils w9.heap.size (.slice (some ⟨b, off, none⟩) S.length sc) S wx)) (fun k _ => S[i].tup.length - (intOf k).toNat)
              case atStart => exact ⟨0, Nat.zero_le _, rfl, hq2.out⟩
              case round =>
                obtain ⟨k, hkn, rfl, hq3⟩ := hrel
                by_cases hlk : k < S[i].tup.length
                · obtain ⟨b', off', cap', g, xc', z, e, hx', hBg, hnc, hcm, c1', cz, fz⟩ := hq3.out.2.at hlt hlk
                  injection e with e1 e2 e3
                  injection e1 with e1
                  injection e1 with e1 e4 e5
                  subst e1 e4
                  clear e2 e3 e5
                  have Hx' := hide hx'
                  clear hx'
                  go_wp2
                  go_roundw
                  case rel => exact ⟨k + 1, by omega, by go_num, hq3.out.1.setCell (p := ⟨g, k, none⟩) hBg _, hq3.out.2.poke (k := k) (List.getElem_mem hlt) Hx'.out _⟩
                  case measure => simp [intOf]; omega
                · obtain rfl : k = S[i].tup.length := by omega
                  go_wp2
                  go_roundw
                  case rel => exact ⟨i + 1, by omega, by go_num, hq3.out⟩
                  case measure => simp [intOf]; omega
            · obtain rfl : i = S.length := by omega
              have hsm := sameAll_any _ _ lk L wo (Hin.out.below hq2.out.1) (HLr.out.below hq2.out.1)
              rw [Hco1.out, decide_eq_true rfl] at hsm
              have Hsm := hide hsm
              have HBo := hide (HB9.out.trans (hq2.out.1.mono HB9.out.size))
              clear hsm hq2
              go_wp2_with fail
              refine Hsm.out.mono ?_
              rintro e w4 ⟨rfl, hb4⟩
              have HB4 := hide (HBo.out.trans (hb4.mono HBo.out.size))
              clear hb4
              go_wp2_with (go_at_call 6; refine (known_walk _).mono ?_; rintro e w' ⟨rfl, hk⟩)
              go_ret
              exact ⟨rfl, HB4.out.trans (hk.mono HB4.out.size)⟩
end Go.Proofs.Yteealadflekffab
