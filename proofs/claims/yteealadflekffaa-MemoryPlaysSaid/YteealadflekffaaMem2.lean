/- The contracts of Get, Remove and Add of package memory. -/
import Derived.Test.YteealadflekffaaMem
import Derived.Deep.RegionHeld3
namespace Go.Proofs.Yteealadflekffaa
open Go Go.RowKit Go.MapKept

theorem zero_fact (w : World) : (zeroValue 34).run Try.prog w = .ok (.agg #[.int .i64 0, .int .i64 0, .slice none 0 0]) w := by kernel_rfl

theorem look_yes {M : Mm} (hM : MemOk M) {f : Fc} (hf : f ∈ M.l) : look (M.l.map Fc.pair) f.id = some f.val := by
  unfold look
  cases h : (M.l.map Fc.pair).find? (fun p => p.1 == f.id) with
  | none => exact absurd (List.find?_eq_none.1 h f.pair (List.mem_map.2 ⟨f, hf, rfl⟩)) (by simp [Fc.pair])
  | some p =>
    obtain ⟨g, hg, rfl⟩ := List.mem_map.1 (List.mem_of_find?_eq_some h)
    have : g.id = f.id := by simpa [Fc.pair] using List.find?_some h
    rcases pairwise_cases hM.ids hg hf with q | q | q
    · subst q; rfl
    · omega
    · omega
theorem look_no {M : Mm} {id : Int} (hf : ∀ f ∈ M.l, f.id ≠ id) : look (M.l.map Fc.pair) id = none := by
  unfold look
  cases h : (M.l.map Fc.pair).find? (fun p => p.1 == id) with
  | none => rfl
  | some p =>
    obtain ⟨g, hg, rfl⟩ := List.mem_map.1 (List.mem_of_find?_eq_some h)
    exact absurd (by simpa [Fc.pair] using List.find?_some h) (hf g hg)

set_option maxHeartbeats 400000 in
theorem get_at (b mm : Nat) (M : Mm) (w : World) (h : MemIs w b mm M) (id i t : Int) (a : Option Addr) (n c : Nat) (s : List Vl) (ok : Bool)
    (hl : looked (.agg #[.int .i64 0, .int .i64 0, .slice none 0 0]) (look (M.l.map Fc.pair) id) = .tuple #[.agg #[.int .i64 i, .int .i64 t, .slice a n c], .bool ok])
    (hx : SlIs w (.slice a n c) s) :
    Calls Try.prog 22 #[.pointer (some ⟨b, 0, none⟩), .int .i64 id] w fun e w' => ∃ v, e = .returned (.tuple #[.agg #[.int .i64 i, .int .i64 t, v], .bool ok]) ∧ SlIs w' v s ∧ Fresh w.heap.size v ∧ Below w.heap.size w w' := by
  have o1 : Only [] w (w.alloc (Obj.cells #[.int .i64 0, .int .i64 0, .slice none 0 0] 34)) := (Only.refl _ _).alloc _
  have h1 : MemIs (w.alloc (Obj.cells #[.int .i64 0, .int .i64 0, .slice none 0 0] 34)) b mm M := h.only o1 (by simp) (by simp) (by simp)
  have hlook := run_lookup (P := Try.prog) (t := 67) Try.underlying67 Try.underlying3 h1.map (zero_fact _) id
  rw [hl] at hlook
  obtain ⟨_, _, c2, _⟩ := h1.at
  have Hx := hide hx
  have Hb := hide (lt_of_heap h.cells)
  have HB := hide (heap_alloc2 w (Obj.cells #[.int .i64 0, .int .i64 0, .slice none 0 0] 34) (Obj.cells #[.int .i64 i, .int .i64 t, .slice a n c] 34)).1
  clear hl h h1 o1 hx
  go_enter Try.func22, Try.ntmps22
  go_wp2_with (go_at_call 34; refine (none_some b mm _ c2).mono ?_; rintro e w' ⟨rfl, rfl⟩)
  refine (own_any i t _ s _ (Hx.out.only (((Only.refl [] w).alloc _).alloc _) (by simp))).mono ?_
  rintro e w2 ⟨v, rfl, hs, hfr, hb⟩
  obtain ⟨a', n', c', rfl⟩ := hs.form
  have hsz2 : ((w.alloc (Obj.cells #[.int .i64 0, .int .i64 0, .slice none 0 0] 34)).alloc (Obj.cells #[.int .i64 i, .int .i64 t, .slice a n c] 34)).heap.size = w.heap.size + 2 := by simp
  rw [hsz2] at hfr hb
  have hsz : w.heap.size + 2 ≤ w2.heap.size := by have := hb.size; simp at this; omega
  obtain ⟨d0, d1, d2, k0, k1, k2⟩ := cells3 ((hb.block w.heap.size (by omega)).trans HB.out)
  have Hs := hide hs
  have Hfr := hide hfr
  have Hbb := hide hb
  clear hs hfr hb hsz2
  go_wp2
  refine bodyPost_ret (v := .tuple #[.agg #[.int .i64 i, .int .i64 t, .slice a' n' c'], .bool ok]) (by simp [results, Try.results22, go_sem, *]) rfl ?_
  refine ⟨_, rfl, Hs.out.only (S := [w.heap.size]) ?_ fun _ k hk hm => ?_, Hfr.out.mono (by omega), ?_⟩
  · exact (((Only.refl _ w2).setCell (.inl (by simp)) _).setCell (.inl (by simp)) _).setCell (.inl (by simp)) _
  · have := Hfr.out.le hk
    simp at hm
    omega
  · exact ((((((Below.refl w.heap.size w).alloc (Nat.le_refl _) _).alloc (by simp) _).trans (Hbb.out.mono (by omega))).setCell (by simp) _).setCell (by simp) _).setCell (by simp) _

theorem get_yes (b mm : Nat) (M : Mm) (hM : MemOk M) (w : World) (h : MemIs w b mm M) (f : Fc) (hf : f ∈ M.l) :
    Calls Try.prog 22 #[.pointer (some ⟨b, 0, none⟩), .int .i64 f.id] w fun e w' => ∃ v, e = .returned (.tuple #[.agg #[.int .i64 f.id, .int .i64 f.t, v], .bool true]) ∧ SlIs w' v f.s ∧ Fresh w.heap.size v ∧ Below w.heap.size w w' := by
  have hx := (h.vals f hf).1
  obtain ⟨a, n, c, e⟩ := hx.form
  refine get_at b mm M w h f.id f.id f.t a n c f.s true ?_ (e ▸ hx)
  rw [look_yes hM hf, looked, Fc.val, e]

theorem get_no (b mm : Nat) (M : Mm) (w : World) (h : MemIs w b mm M) (id : Int) (hf : ∀ f ∈ M.l, f.id ≠ id) :
    Calls Try.prog 22 #[.pointer (some ⟨b, 0, none⟩), .int .i64 id] w fun e w' => ∃ v, e = .returned (.tuple #[.agg #[.int .i64 0, .int .i64 0, v], .bool false]) ∧ SlIs w' v [] ∧ Fresh w.heap.size v ∧ Below w.heap.size w w' := by
  refine get_at b mm M w h id 0 0 none 0 0 [] false ?_ ⟨by simp, .inr ⟨rfl, .inl rfl⟩⟩
  rw [look_no hf, looked]

/-- The memory without the fact of an id. -/
def Mm.del (M : Mm) (id : Int) : Mm := { M with l := M.l.filter (fun f => f.id != id) }

theorem drop_pairs (l : List Fc) (id : Int) : drop (l.map Fc.pair) id = (l.filter (fun f => f.id != id)).map Fc.pair := by
  unfold drop
  rw [List.filter_map]
  rfl

theorem MemOk.del {M : Mm} (h : MemOk M) (id : Int) : MemOk (M.del id) :=
  ⟨h.ids.filter _, fun f hf => h.le f (List.mem_filter.1 hf).1, h.uniq.filter _, h.last, h.lim, by
    have := List.length_filter_le (fun f : Fc => f.id != id) M.l
    have := h.len
    simp only [Mm.del]
    omega⟩

set_option maxHeartbeats 400000 in
theorem remove_yes (b mm : Nat) (M : Mm) (hM : MemOk M) (w : World) (h : MemIs w b mm M) (f : Fc) (hf : f ∈ M.l) :
    Calls Try.prog 14 #[.pointer (some ⟨b, 0, none⟩), .int .i64 f.id] w fun e w' => ∃ v, e = .returned (.tuple #[.agg #[.int .i64 f.id, .int .i64 f.t, v], .bool true]) ∧ SlIs w' v f.s ∧ Fresh w.heap.size v ∧ MemIs w' b mm (M.del f.id) ∧ Only [mm] w w' := by
  have o1 : Only [] w (w.alloc (Obj.cells #[.int .i64 0, .int .i64 0, .slice none 0 0] 34)) := (Only.refl _ _).alloc _
  have h1 : MemIs (w.alloc (Obj.cells #[.int .i64 0, .int .i64 0, .slice none 0 0] 34)) b mm M := h.only o1 (by simp) (by simp) (by simp)
  have H1 := hide h1
  have H := hide h
  have hbm := hide (show b < w.heap.size ∧ mm < w.heap.size ∧ b ≠ mm from ⟨lt_of_heap h.cells, h.map.lt, fun e => by
    obtain ⟨es, c, q, _⟩ := h.map
    have := h.cells
    rw [e, q] at this
    cases this⟩)
  have HM := hide hM
  have Hf := hide hf
  clear o1 h1 h hM hf
  have hd0 := (MapKept.heap_alloc w (Obj.cells #[.int .i64 0, .int .i64 0, .slice none 0 0] 34)).1
  have Hd0 := hide hd0
  clear hd0
  go_enter Try.func14, Try.ntmps14
  go_wp2_with fail
  refine (get_yes b mm M HM.out _ H1.out f Hf.out).mono ?_
  rintro e w2 ⟨v, rfl, hs, hfr, hb⟩
  obtain ⟨a', n', c', rfl⟩ := hs.form
  simp only [World.size_alloc] at hfr hb
  have hsz : w.heap.size + 1 ≤ w2.heap.size := by have := hb.size; simp at this; omega
  have h2 : MemIs w2 b mm M := H1.out.below (by simpa using hb)
  have o2 : Only [] w2 (w2.alloc (Obj.cells #[.int .i64 f.id, .int .i64 f.t, .slice a' n' c'] 34)) := (Only.refl _ _).alloc _
  have h3 := h2.only o2 (by simp) (by simp) (by simp)
  obtain ⟨w3, hrun, hm3, ho3, hsz3⟩ := run_delete (P := Try.prog) (t := 67) Try.underlying67 Try.underlying3 h3.map f.id
  obtain ⟨c0, c1, c2, f0, f1, f2⟩ := h3.at
  have hmm := hbm.out.2.1
  obtain ⟨d0, d1, d2, k0, k1, k2⟩ := cells3 ((ho3.block w.heap.size (by simp; omega) (by simp; omega)).trans ((o2.block w.heap.size (by omega) (by simp)).trans ((hb.block w.heap.size (by omega)).trans Hd0.out)))
  obtain ⟨e0, e1, e2, j0, j1, j2⟩ := cells3 ((ho3.block w2.heap.size (by simp) (by simp; omega)).trans (MapKept.heap_alloc w2 (Obj.cells #[.int .i64 f.id, .int .i64 f.t, .slice a' n' c'] 34)).1)
  have Hs := hide hs
  have Hfr := hide hfr
  have Hb := hide hb
  have H3 := hide h3
  have Hm3 := hide hm3
  have Ho3 := hide ho3
  have Hsz3 := hide hsz3
  clear hs hfr hb h2 o2 h3 hm3 ho3 hsz3
  go_wp2
  refine bodyPost_ret (v := .tuple #[.agg #[.int .i64 f.id, .int .i64 f.t, .slice a' n' c'], .bool true]) (by simp [results, Try.results14, go_sem, *]) rfl ?_
  have hs2 : (w2.alloc (Obj.cells #[.int .i64 f.id, .int .i64 f.t, .slice a' n' c'] 34)).heap.size = w2.heap.size + 1 := by simp
  obtain ⟨hb1, hb2, hb3⟩ := hbm.out
  have of : Only [w.heap.size] w3 (((w3.setCell ⟨w.heap.size, 0, none⟩ (.int .i64 f.id)).setCell ⟨w.heap.size, 1, none⟩ (.int .i64 f.t)).setCell ⟨w.heap.size, 2, none⟩ (.slice a' n' c')) :=
    (((Only.refl _ w3).setCell (.inl (by simp)) _).setCell (.inl (by simp)) _).setCell (.inl (by simp)) _
  have m3 : MemIs w3 b mm (M.del f.id) := ⟨(Ho3.out.block b (by rw [hs2]; omega) (by simpa using hb3)).trans H3.out.cells, by
      have := Hm3.out
      rw [drop_pairs] at this
      exact this, fun g hg => by
      obtain ⟨g1, g2⟩ := H3.out.vals g (List.mem_filter.1 hg).1
      exact ⟨g1.only Ho3.out fun hn k hk => by simpa using (g2 hn k hk).2, g2⟩⟩
  have oa : Only [] (w.alloc (Obj.cells #[.int .i64 0, .int .i64 0, .slice none 0 0] 34)) w2 := Only.of_below (by simpa using Hb.out) []
  have o3 : Only [mm] w w3 := (((((Only.refl [] w).alloc _).trans oa).alloc _).mono (by simp)).trans Ho3.out
  refine ⟨_, rfl, (Hs.out.only (Only.refl [] w2 |>.alloc _) (by simp) |>.only Ho3.out fun _ k hk hm => ?_).only of fun _ k hk hm => ?_, Hfr.out.mono (by omega), m3.only of ?_ ?_ fun g hg hn k hk => ?_, o3.step of fun i hi => ?_⟩
  · have := Hfr.out.le hk
    simp at hm
    omega
  · have := Hfr.out.le hk
    simp at hm
    omega
  · simp; omega
  · simp; omega
  · have := (H.out.vals g (List.mem_filter.1 hg).1).1.blk_lt hn hk
    simp; omega
  · simp at hi; omega

theorem remove_no (b mm : Nat) (M : Mm) (w : World) (h : MemIs w b mm M) (id : Int) (hf : ∀ f ∈ M.l, f.id ≠ id) :
    Calls Try.prog 14 #[.pointer (some ⟨b, 0, none⟩), .int .i64 id] w fun e w' => ∃ v, e = .returned (.tuple #[.agg #[.int .i64 0, .int .i64 0, v], .bool false]) ∧ SlIs w' v [] ∧ Fresh w.heap.size v ∧ Below w.heap.size w w' := by
  have h1 : MemIs (w.alloc (Obj.cells #[.int .i64 0, .int .i64 0, .slice none 0 0] 34)) b mm M := h.only ((Only.refl [] _).alloc _) (by simp) (by simp) (by simp)
  have H1 := hide h1
  have Hf := hide hf
  have Hd0 := hide (MapKept.heap_alloc w (Obj.cells #[.int .i64 0, .int .i64 0, .slice none 0 0] 34)).1
  clear h1 h hf
  go_enter Try.func14, Try.ntmps14
  go_wp2_with fail
  refine (get_no b mm M _ H1.out id Hf.out).mono ?_
  rintro e w2 ⟨v, rfl, hs, hfr, hb⟩
  obtain ⟨a', n', c', rfl⟩ := hs.form
  simp only [World.size_alloc] at hfr hb
  have hsz : w.heap.size + 1 ≤ w2.heap.size := by have := hb.size; simp at this; omega
  obtain ⟨d0, d1, d2, k0, k1, k2⟩ := cells3 (((MapKept.heap_alloc w2 (Obj.cells #[.int .i64 0, .int .i64 0, .slice a' n' c'] 34)).2 w.heap.size (by omega)).trans ((hb.block w.heap.size (by omega)).trans Hd0.out))
  have Hs := hide hs
  have Hfr := hide hfr
  have Hb := hide hb
  clear hs hfr hb
  go_wp2
  refine bodyPost_ret (v := .tuple #[.agg #[.int .i64 0, .int .i64 0, .slice a' n' c'], .bool false]) (by simp [results, Try.results14, go_sem, *]) rfl ?_
  refine ⟨_, rfl, Hs.out.nil_any, Hfr.out.mono (by omega), ?_⟩
  · exact (((((((Below.refl w.heap.size w).alloc (Nat.le_refl _) _).trans (Hb.out.mono (by omega))).alloc (by omega) _).setCell (by simp) _).setCell (by simp) _).setCell (by simp) _)

theorem Mm.find_mem {M : Mm} (hM : MemOk M) {f : Fc} (hf : f ∈ M.l) : M.hit f.t f.s = some f := by
  cases h : M.hit f.t f.s with
  | none => exact absurd ⟨rfl, rfl⟩ (Mm.hit_none h hf)
  | some g =>
    obtain ⟨hg, h1, h2⟩ := Mm.hit_some h
    rcases pairwise_cases hM.uniq hg hf with q | q | q
    · rw [q]
    · exact absurd ⟨h1, h2⟩ q
    · exact absurd ⟨h1.symm, h2.symm⟩ q

set_option maxHeartbeats 400000 in
theorem add_old (b mm : Nat) (M : Mm) (hM : MemOk M) (f : Fc) (hf : f ∈ M.l) (x : Value) (w : World) (h : MemIs w b mm M) (hx : SlIs w x f.s) :
    Calls Try.prog 11 #[.pointer (some ⟨b, 0, none⟩), .int .i64 f.t, x] w fun e w' => e = .returned (.tuple #[.int .i64 f.id, .bool false, .int .i64 0]) ∧ Below w.heap.size w w' := by
  have hfi := (hM.le f hf).1
  have hfind : M.find f.t f.s = f.id := by unfold Mm.find; rw [Mm.find_mem hM hf]
  obtain ⟨_, _, c2, _⟩ := h.at
  have Hc := hide (find_any b mm M hM f.t x f.s w h hx)
  have Hfind := hide hfind
  clear hM h hx hf hfind
  go_enter Try.func11, Try.ntmps11
  go_wp2_with (go_at_call 34; refine (none_some b mm _ c2).mono ?_; rintro e w' ⟨rfl, rfl⟩)
  refine Hc.out.mono ?_
  rintro e w' ⟨rfl, hb⟩
  rw [Hfind.out]
  have Hb := hide hb
  clear hb
  go_wp2
  go_ret3
  exact ⟨rfl, Hb.out⟩

set_option maxHeartbeats 400000 in
theorem add_full (b mm : Nat) (M : Mm) (hM : MemOk M) (t : Int) (s : List Vl) (hh : M.hit t s = none) (hl : (M.l.length : Int) = M.limit) (x : Value) (w : World) (h : MemIs w b mm M) (hx : SlIs w x s) :
    Calls Try.prog 11 #[.pointer (some ⟨b, 0, none⟩), .int .i64 t, x] w fun e w' => e = .returned (.tuple #[.int .i64 0, .bool false, .int .i64 7]) ∧ Below w.heap.size w w' := by
  have hfind : M.find t s = 0 := by unfold Mm.find; rw [hh]
  obtain ⟨_, _, c2, _⟩ := h.at
  have Hc := hide (find_any b mm M hM t x s w h hx)
  have Hfind := hide hfind
  have H := hide h
  have Hl := hide hl
  clear hM h hx hh hfind hl
  go_enter Try.func11, Try.ntmps11
  go_wp2_with (go_at_call 34; refine (none_some b mm _ c2).mono ?_; rintro e w' ⟨rfl, rfl⟩)
  refine Hc.out.mono ?_
  rintro e w' ⟨rfl, hb⟩
  rw [Hfind.out]
  have h' := H.out.below hb
  obtain ⟨c0, c1, c2', _⟩ := h'.at
  have hlen := fun (n : Nat) (ty : TypeId) => run_len_map (P := Try.prog) (t := 67) (w := w'.drewN n) Try.underlying67 (h'.map.only ((Only.refl [] _).drewN n) (by simp)) ty
  simp only [List.length_map] at hlen
  have hd : ((M.l.length : Int) == M.limit) = true := by simpa using Hl.out
  have Hb := hide hb
  clear hb h'
  go_wp2_with fail
  go_quiet (fail)
  go_wp2
  go_ret3
  exact ⟨rfl, below_drewN Hb.out _⟩

theorem MemIs.ne {w : World} {b mm : Nat} {M : Mm} (h : MemIs w b mm M) : b ≠ mm := fun e => by
  obtain ⟨es, c, q, _⟩ := h.map
  have := h.cells
  rw [e, q] at this
  cases this

theorem MemIs.apart {w : World} {b mm : Nat} {M : Mm} (h : MemIs w b mm M) {x : Value} {s : List Vl} (hx : SlIs w x s) (hn : s ≠ []) {k : Nat} (hk : blkOf x = some k) : k ≠ b ∧ k ≠ mm := by
  obtain ⟨_, ⟨b', off, cap, rfl, hc⟩ | ⟨e, _⟩⟩ := hx
  · have h0 := (hc 0 (List.length_pos_iff.2 hn)).1
    simp only [blkOf, Option.some.injEq] at hk
    subst hk
    constructor
    · rintro rfl
      have hb := h.cells
      simp only [World.cell?, hb] at h0
      match off, h0 with
      | 0, h0 => simp at h0
      | 1, h0 => simp at h0
      | 2, h0 => simp at h0
      | n + 3, h0 => simp at h0
    · rintro rfl
      obtain ⟨es, c, hb, _⟩ := h.map
      simp [World.cell?, hb] at h0
  · exact absurd e hn

/-- The memory with a fact more. -/
def Mm.add (M : Mm) (t : Int) (s : List Vl) (x : Value) : Mm := ⟨M.limit, M.last + 1, M.l ++ [⟨M.last + 1, t, s, x⟩]⟩

theorem put_new {l : List (Int × Value)} {k : Int} (v : Value) (h : ∀ p ∈ l, p.1 ≠ k) : put l k v = l ++ [(k, v)] := by
  induction l with
  | nil => rfl
  | cons p l ih =>
    rw [put, if_neg (h p (.head _)), ih (fun q hq => h q (.tail _ hq))]
    rfl

theorem MemOk.add {M : Mm} (h : MemOk M) {t : Int} {s : List Vl} (hh : M.hit t s = none) (hl : (M.l.length : Int) < M.limit) (x : Value) : MemOk (M.add t s x) := by
  refine ⟨List.pairwise_append.2 ⟨h.ids, by simp, fun f hf g hg => ?_⟩, fun f hf => ?_, List.pairwise_append.2 ⟨h.uniq, by simp, fun f hf g hg => ?_⟩, ?_, h.lim, ?_⟩
  · simp only [List.mem_singleton] at hg
    subst hg
    have := (h.le f hf).2
    simp only
    omega
  · have hl := h.last
    rcases List.mem_append.1 hf with hf | hf
    · have := h.le f hf
      simp only [Mm.add]
      omega
    · simp only [List.mem_singleton] at hf
      subst hf
      simp only [Mm.add]
      omega
  · simp only [List.mem_singleton] at hg
    subst hg
    exact Mm.hit_none hh hf
  · have := h.last
    simp only [Mm.add]
    omega
  · simp only [Mm.add, List.length_append, List.length_singleton]
    omega

set_option maxHeartbeats 400000 in
theorem add_new (b mm : Nat) (M : Mm) (hM : MemOk M) (t : Int) (s : List Vl) (hh : M.hit t s = none) (hl : (M.l.length : Int) < M.limit) (hlast : M.last < 1000000000) (x : Value) (w : World) (h : MemIs w b mm M) (hx : SlIs w x s) :
    Calls Try.prog 11 #[.pointer (some ⟨b, 0, none⟩), .int .i64 t, x] w fun e w' => ∃ v, e = .returned (.tuple #[.int .i64 (M.last + 1), .bool true, .int .i64 0]) ∧ MemIs w' b mm (M.add t s v) ∧ Fresh w.heap.size v ∧ Only [b, mm] w w' := by
  have hfind : M.find t s = 0 := by unfold Mm.find; rw [hh]
  obtain ⟨xa, xn, xc, rfl⟩ := hx.form
  obtain ⟨_, _, c2, _⟩ := h.at
  have Hc := hide (find_any b mm M hM t _ s w h hx)
  have Hfind := hide hfind
  have H := hide h
  have Hl := hide hl
  have Hx := hide hx
  have hl0 := hM.last
  have HM := hide hM
  clear hM h hx hh hfind hl
  go_enter Try.func11, Try.ntmps11
  go_wp2_with (go_at_call 34; refine (none_some b mm _ c2).mono ?_; rintro e w' ⟨rfl, rfl⟩)
  refine Hc.out.mono ?_
  rintro e w' ⟨rfl, hb⟩
  rw [Hfind.out]
  have h' := H.out.below hb
  obtain ⟨c0, c1, c2', f0, f1, f2⟩ := h'.at
  have hlen := fun (n : Nat) (ty : TypeId) => run_len_map (P := Try.prog) (t := 67) (w := w'.drewN n) Try.underlying67 (h'.map.only ((Only.refl [] _).drewN n) (by simp)) ty
  simp only [List.length_map] at hlen
  have hd : ((M.l.length : Int) == M.limit) = false := by have := Hl.out; simp; omega
  have Hb := hide hb
  have H' := hide h'
  clear hb h'
  go_wp2_with fail
  go_quiet (fail)
  go_wp2
  obtain ⟨W, hW⟩ : ∃ W, (w'.drewN nq).setCell ⟨b, 1, none⟩ (.int .i64 (M.last + 1)) = W := ⟨_, rfl⟩
  have oW : Only [b] w' W := by rw [← hW]; exact ((Only.refl _ _).drewN _).setCell (.inl (by simp)) _
  have hbk : W.heap[b]? = some (.cells #[.int .i64 M.limit, .int .i64 (M.last + 1), .map (some mm)] 69 (0, 0)) := by
    rw [← hW]
    exact (setCell_heap (w := w'.drewN nq) H'.out.cells).trans (by simp)
  have q2 : W.cell? ⟨b, 2, none⟩ = some (.map (some mm)) := by rw [← hW]; simp [go_sem, c2']
  have q1 : W.cell? ⟨b, 1, none⟩ = some (.int .i64 (M.last + 1)) := by rw [← hW]; simp [go_sem, c1]
  rw [hW]
  have HxW := hide (Hx.out.only (Only.of_below Hb.out []) (by simp) |>.only oW fun hn k hk => by simpa using (H.out.apart Hx.out hn hk).1)
  have HmW := hide ((H'.out.map.only oW (by have := H'.out.ne; simpa using this.symm)).only ((Only.refl [] W).drew) (by simp))
  have hbW := hide (show b < W.heap.size from Nat.lt_of_lt_of_le (lt_of_heap H'.out.cells) oW.size)
  have OW := hide oW
  have Hbk := hide hbk
  clear hbk
  clear hW c0 c1 c2' f0 f1 f2 hlen hd c2 oW
  go_region_held3 (fun W => W.cell? ⟨b, 2, none⟩ = some (.map (some mm)) ∧ W.cell? ⟨b, 1, none⟩ = some (.int .i64 (M.last + 1))) (go_keep) ((go_at_call 35; refine (own_any _ _ _ s _ (HxW.out.only (Only.drew (Only.refl [] _)) (by simp))).mono ?_; rintro e w2 ⟨v, rfl, hs, hfr, hb⟩; obtain ⟨va, vn, vc, rfl⟩ := hs.form; have p2 := (hb.cell (p := ⟨b, 2, none⟩) hbW.out).trans q2; have p1 := (hb.cell (p := ⟨b, 1, none⟩) hbW.out).trans q1; have hm2 := HmW.out.only (Only.of_below hb []) (by simp); obtain ⟨w3, hrun, hm3, ho3, hsz3⟩ := run_mapUpdate (P := Try.prog) (t := 67) Try.underlying67 Try.underlying3 hm2 (M.last + 1) (.agg #[.int .i64 (M.last + 1), .int .i64 t, .slice va vn vc]); have hlt2 : b < w2.heap.size := Nat.lt_of_lt_of_le hbW.out hb.size; have r2 := (ho3.cell (p := ⟨b, 2, none⟩) hlt2 (by simpa using H'.out.ne)).trans p2; have r1 := (ho3.cell (p := ⟨b, 1, none⟩) hlt2 (by simpa using H'.out.ne)).trans p1; have Hs := hide hs; have Hfr := hide hfr; have Hb2 := hide hb; have Hm3 := hide hm3; have Ho3 := hide ho3; have Hsz3 := hide hsz3; clear hs hfr hb hm2 hm3 ho3 hsz3))
  go_wp2
  go_ret3
  have hbm := H'.out.ne
  have hmm : mm < w'.heap.size := H'.out.map.lt
  have hw : w.heap.size ≤ w'.heap.size := Hb.out.size
  have hW : w'.heap.size ≤ W.heap.size := OW.out.size
  have hlo : ∀ k, blkOf (.slice va vn vc) = some k → W.heap.size ≤ k := fun k hk => Hfr.out.le hk
  refine ⟨.slice va vn vc, rfl, ⟨?_, ?_, ?_⟩, Hfr.out.mono (by simp; omega), ?_⟩
  · exact (Ho3.out.block b hlt2 (by simpa using hbm)).trans ((Hb2.out.block b hbW.out).trans Hbk.out)
  · have := Hm3.out
    rw [put_new _ (fun p hp => by
      obtain ⟨f, hf, rfl⟩ := List.mem_map.1 hp
      have := (HM.out.le f hf).2
      simp only [Fc.pair]
      omega)] at this
    simpa [Mm.add, Fc.pair, Fc.val] using this
  · intro f hf
    rcases List.mem_append.1 hf with hf | hf
    · obtain ⟨g1, g2⟩ := H'.out.vals f hf
      refine ⟨((g1.only OW.out fun hn k hk => by simpa using (g2 hn k hk).1).only (((Only.refl [] W).drew).trans (Only.of_below Hb2.out [])) (by simp)).only Ho3.out fun hn k hk => by simpa using (g2 hn k hk).2, g2⟩
    · simp only [List.mem_singleton] at hf
      subst hf
      refine ⟨Hs.out.only Ho3.out fun _ k hk => ?_, fun _ k hk => ?_⟩
      · have := hlo k hk
        simp only [List.mem_singleton]
        omega
      · have := hlo k hk
        have := lt_of_heap H'.out.cells
        omega
  · refine (((((Only.of_below Hb.out []).mono (by simp)).trans (OW.out.mono (T := [b, mm]) (by simp))).step (((Only.refl [] W).drew).trans (Only.of_below Hb2.out [])) (by simp)).trans (Ho3.out.mono (by simp)))

end Go.Proofs.Yteealadflekffaa
