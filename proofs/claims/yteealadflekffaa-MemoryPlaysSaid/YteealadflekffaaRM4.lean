/- The document's Remove; the memory's Copy; fact. -/
import Derived.Test.YteealadflekffaaRM2
import Derived.Test.YteealadflekffaaMapC
import Derived.Shelf.SlMaps.Clone
namespace Go.Proofs.Yteealadflekffaa
open Go Go.RowKit Go.MapKept Go.Shelf

theorem lit3a {w : World} {b : Nat} {x y z : Value} {t : TypeId} (h : w.heap[b]? = some (.cells #[x, y, z] t (0, 0))) : ∀ j u, [x, y, z][j]? = some u → w.cell? ((⟨b, 0, none⟩ : Addr).add j) = some u := by
  obtain ⟨c0, c1, c2, _⟩ := cells3 h
  intro j u hu
  rw [Addr.add_lit, Nat.zero_add]
  rcases j with _ | _ | _ | j
  · simp only [List.getElem?_cons_zero, Option.some.injEq] at hu
    subst hu
    exact c0
  · simp only [List.getElem?_cons_succ, List.getElem?_cons_zero, Option.some.injEq] at hu
    subst hu
    exact c1
  · simp only [List.getElem?_cons_succ, List.getElem?_cons_zero, Option.some.injEq] at hu
    subst hu
    exact c2
  · simp at hu
/-- What stays of the first k facts. -/
def stays (id : Int) (l : List Fc) : List Fc := l.filter fun f => f.id != id
theorem stays_yes {id : Int} {l : List Fc} {k : Nat} (h : k < l.length) (hne : l[k].id ≠ id) : stays id (l.take (k + 1)) = stays id (l.take k) ++ [l[k]] := by
  unfold stays
  rw [List.take_succ_eq_append_getElem h, List.filter_append]
  simp [hne]
theorem stays_no {id : Int} {l : List Fc} {k : Nat} (h : k < l.length) (he : l[k].id = id) : stays id (l.take (k + 1)) = stays id (l.take k) := by
  unfold stays
  rw [List.take_succ_eq_append_getElem h, List.filter_append]
  simp [he]
theorem stays_len (id : Int) (l : List Fc) (k : Nat) : (stays id (l.take k)).length ≤ l.length := Nat.le_trans (List.length_filter_le _ _) (by rw [List.length_take]; omega)
theorem gflat_snoc (l : List Fc) (f : Fc) : gflat (l ++ [f]) = gflat l ++ f.cells := by
  unfold gflat
  rw [List.flatMap_append]
  simp

/-- The end of Remove: the row stands for the facts. -/
theorem removed {w V : World} {r c n k' B : Nat} {a a' : Option Addr} {G : Mm} {id : Int} (h : RefIs w r a c G) (hV : Below w.heap.size w V) (hB : w.heap.size ≤ B) (ho : V.ownsRow B 34 3 (.slice a' n k') n (gflat (stays id G.l))) (hn : n = (stays id G.l).length) :
    RefIs (V.setCell ⟨r, 2, none⟩ (.slice a' n k')) r a' k' (G.del id) ∧ (∀ k, FsFoot a' (G.del id).l k → FsFoot a G.l k ∨ B ≤ k) ∧ Only [r] w (V.setCell ⟨r, 2, none⟩ (.slice a' n k')) := by
  have hr := lt_of_heap h.cells
  have oS : Only [r] V (V.setCell ⟨r, 2, none⟩ (.slice a' n k')) := (Only.refl _ _).setCell (.inl (by simp)) _
  have hmem : ∀ f ∈ stays id G.l, f ∈ G.l := fun f hf => (List.mem_filter.1 hf).1
  obtain ⟨f1, f2, f3⟩ := FsIs.of_own ho hn (Nat.le_trans (List.length_filter_le _ _) h.fs.len) fun f hf => (h.fs.vals f (hmem f hf)).only (Only.of_below hV []) (by simp)
  have hfoot : ∀ k, FsFoot a' (stays id G.l) k → FsFoot a G.l k ∨ B ≤ k := by
    rintro k (⟨_, p, hp, rfl⟩ | ⟨f, hf, hs, hk⟩)
    · exact .inr (f3 p hp).1
    · exact .inl (.inr ⟨f, hmem f hf, hs, hk⟩)
  have hne : ∀ k, FsFoot a' (stays id G.l) k → k ≠ r := fun k hk => by
    rcases hfoot k hk with q | q
    · exact h.apart k q
    · omega
  refine ⟨⟨?_, f1.only oS fun k hk => by simpa using hne k hk, hne, f2⟩, hfoot, (Only.of_below hV [r]).trans oS⟩
  rw [setCell_heap (i := 2) (u := .slice a' n k') ((hV.block r hr).trans h.cells), hn]
  simp [Mm.del, stays]

set_option maxRecDepth 100000 in
set_option maxHeartbeats 4000000 in
theorem rremove_of (r c : Nat) (a : Option Addr) (G : Mm) (w : World) (h : RefIs w r a c G) (id i t : Int) (x : Value) (ok : Bool) (hx : ∃ xa xn xc, x = .slice xa xn xc)
    (hget : ∀ V, Below w.heap.size w V → Calls Try.prog 31 #[.pointer (some ⟨r, 0, none⟩), .int .i64 id] V fun e w' => e = .returned (.tuple #[.agg #[.int .i64 i, .int .i64 t, x], .bool ok]) ∧ Below V.heap.size V w') :
    Calls Try.prog 27 #[.pointer (some ⟨r, 0, none⟩), .int .i64 id] w fun e w' => ∃ a' c', e = .returned (.tuple #[.agg #[.int .i64 i, .int .i64 t, x], .bool ok]) ∧ RefIs w' r a' c' (G.del id) ∧ (∀ k, FsFoot a' (G.del id).l k → FsFoot a G.l k ∨ w.heap.size ≤ k) ∧ Only [r] w w' := by
  obtain ⟨xa, xn, xc, rfl⟩ := hx
  have hlen := h.fs.len
  have hr := lt_of_heap h.cells
  have H := hide h
  obtain ⟨i0, hi, hz0, hz1, hz2⟩ := info_parts3 infoF
  have Hi := hide hi
  have Hz0 := hide hz0
  have Hz1 := hide hz1
  have Hz2 := hide hz2
  have HB0 := hide ((Below.refl w.heap.size w).alloc (Nat.le_refl _) (.cells #[.int .i64 0, .int .i64 0, .slice none 0 0] 34))
  have HG := hide (hget _ HB0.out)
  have X0 := hide (heap_new w (.cells #[.int .i64 0, .int .i64 0, .slice none 0 0] 34))
  clear h hi hz0 hz1 hz2 hget
  go_enter Try.func27, Try.ntmps27
  go_wp2_with fail
  (with_reducible refine HG.out.mono ?_)
  rintro e V ⟨rfl, hV⟩
  have hsV : w.heap.size < V.heap.size := by have := hV.size; simp at this; omega
  have y0 := (hV.block _ (by simp)).trans X0.out
  obtain ⟨y0a, y0b, y0c, y0d, y0e, y0f⟩ := cells3 (((Below.refl V.heap.size V).alloc (Nat.le_refl _) (.cells #[.int .i64 i, .int .i64 t, .slice xa xn xc] 34)).block w.heap.size hsV |>.trans y0)
  have Y0 := hide (((Below.refl V.heap.size V).alloc (Nat.le_refl _) (.cells #[.int .i64 i, .int .i64 t, .slice xa xn xc] 34)).block w.heap.size hsV |>.trans y0)
  have Y1 := hide (heap_new V (.cells #[.int .i64 i, .int .i64 t, .slice xa xn xc] 34))
  have C1 := hide ((HB0.out.trans (hV.mono HB0.out.size)).alloc (Nat.le_of_lt hsV) (.cells #[.int .i64 i, .int .i64 t, .slice xa xn xc] 34))
  have hsz1 : (V.alloc (.cells #[.int .i64 i, .int .i64 t, .slice xa xn xc] 34)).heap.size = V.heap.size + 1 := by simp
  have Hsz1 := hide hsz1
  clear hV y0 y0a y0b y0c y0d y0e y0f hsz1
  go_wp2
  go_loopw [8, 9] (fun vo vi wr => ∃ k : Nat, k ≤ G.l.length ∧ vi = .int .i64 k ∧ Hid (wr.ownsRow (V.heap.size + 1) 34 3 vo (stays id (G.l.take k)).length (gflat (stays id (G.l.take k)))) ∧ Hid (Below (V.alloc (.cells #[.int .i64 i, .int .i64 t, .slice xa xn xc] 34)).heap.size (V.alloc (.cells #[.int .i64 i, .int .i64 t, .slice xa xn xc] 34)) wr)) (fun _ vi _ => G.l.length - (intOf vi).toNat)
  case atStart => exact ⟨0, Nat.zero_le _, rfl, World.ownsRow_nil _ _ _ _, Below.refl _ _⟩
  case round =>
    obtain ⟨k, hk, rfl, hown, hb⟩ := hrel
    have hww := C1.out.trans (hb.out.mono C1.out.size)
    have hRr := H.out.only (Only.of_below hww []) (by simp)
    obtain ⟨c0, c1, c2, q0, q1, q2⟩ := cells3 hRr.cells
    have hrw : r < wr.heap.size := lt_of_heap hRr.cells
    by_cases hlk : k < G.l.length
    · obtain ⟨b, off, rfl, d0, d1, d2⟩ := hRr.fs.at hlk
      have hbl := lt_of_cell d0
      have hone := (hRr.fs.vals _ (List.getElem_mem hlk)).form
      have hyes := stays_yes (id := id) hlk
      have hno := stays_no (id := id) hlk
      have hln := stays_len id G.l k
      obtain ⟨f, hf⟩ : ∃ f, G.l[k] = f := ⟨_, rfl⟩
      rw [hf] at d0 d1 d2 hyes hno hone
      clear hf
      obtain ⟨fi, ft, fs, fx⟩ := f
      obtain ⟨fa, fn, fc, e⟩ := hone
      simp only at d0 d1 d2 hyes hno e
      subst e
      have i1 : (0 : Int) ≤ (k : Int) := by omega
      have i2 : (k : Int) < (G.l.length : Int) := by omega
      by_cases he : fi = id
      · have he1 : (fi == id) = true := by simpa using he
        have he2 : (fi != id) = false := by simpa using he
        have Hs := hide (hno he)
        clear he hyes hno hRr hww c0 c1
        go_wp2
        go_roundw
        case rel => exact ⟨k + 1, by omega, by go_num, by rw [Hs.out]; exact hown, hb⟩
        case measure => simp [intOf]; omega
      · have he1 : (fi == id) = false := by simpa using he
        have he2 : (fi != id) = true := by simpa using he
        have Hs := hide (hyes he)
        have Hhy := hide hlk
        obtain ⟨oa, oc, rfl⟩ := own_form hown.out
        have hlit := lit3a (heap_new wr (.cells #[.int .i64 fi, .int .i64 ft, .slice fa fn fc] 34))
        have Hlit := hide hlit
        have hownA := World.ownsRow.alloc hown.out (.cells #[.int .i64 fi, .int .i64 ft, .slice fa fn fc] 34)
        have HownA := hide hownA
        have hbase : V.heap.size + 1 ≤ wr.heap.size := by have := hb.out.size; rw [Hsz1.out] at this; exact this
        obtain ⟨nn, hnn⟩ : ∃ n, (stays id (G.l.take k)).length = n := ⟨_, rfl⟩
        rw [hnn] at HownA hln
        rw [hnn]
        have Hnn := hide hnn
        clear he hyes hno hRr hww hlit hownA hnn c0 c1 q0 q1 q2
        go_wp2_with (at_builtin; refine wpList_append_own _ rfl _ _ 54 rfl (V.heap.size + 1) 34 i0 (.agg #[.int .i64 0, .int .i64 0, .slice none 0 0]) 3 40 Try.underlying54 Hi.out Hz0.out Hz1.out Hz2.out rfl (by decide) _ _ _ rfl HownA.out ⟨wr.heap.size, 0, none⟩ 1 1 [.int .i64 fi, .int .i64 ft, .slice fa fn fc] rfl rfl Hlit.out ?c2 ?c3 ?c4 ?c5 ?_)
        case c2 => simp [Value.oneCell']
        case c3 => unfold maxLen; omega
        case c4 => omega
        case c5 => first | omega | (simp; omega)
        intro v' w2 hown2 hgrow _
        have Hown2 : Hid (w2.ownsRow (V.heap.size + 1) 34 3 v' (stays id (G.l.take (k + 1))).length (gflat (stays id (G.l.take (k + 1))))) := by
          rw [Hid, Hs.out, gflat_snoc, List.length_append, Hnn.out]
          exact hown2
        have HB2 := hide ((hb.out.alloc hb.out.size (.cells #[.int .i64 fi, .int .i64 ft, .slice fa fn fc] 34)).grown hgrow (by simp; omega) (fun b e => by rw [Hsz1.out]; exact (World.ownsRow.lt HownA.out b e).1))
        clear hown2 hgrow
        go_wp2
        go_roundw
        case rel => exact ⟨k + 1, by omega, by go_num, Hown2, HB2⟩
        case measure => simp [intOf]; omega
    · obtain rfl : k = G.l.length := by omega
      have hown' := hown.out
      rw [List.take_length] at hown'
      obtain ⟨oa, oc, rfl⟩ := own_form hown'
      have hrem := removed H.out hww (by omega) hown' rfl
      have x1 := (hb.out.block V.heap.size (by rw [Hsz1.out]; omega)).trans Y1.out
      have x0 := (hb.out.block w.heap.size (by rw [Hsz1.out]; omega)).trans Y0.out
      obtain ⟨z0, z1, z2, _⟩ := cells3 x1
      obtain ⟨s0, s1, s2, s3, s4, s5⟩ := cells3 x0
      have hwl : V.heap.size < wr.heap.size := lt_of_heap x1
      have Hrem := hide hrem
      have Hr := hide hr
      obtain ⟨nn, hnn⟩ : ∃ n, (stays id G.l).length = n := ⟨_, rfl⟩
      rw [hnn] at Hrem ⊢
      clear hrem hown' hown hww hRr x1 x0 hnn
      go_wp2
      refine bodyPost_ret (v := .tuple #[.agg #[.int .i64 i, .int .i64 t, .slice xa xn xc], .bool ok]) (by simp [results, Try.results27, go_sem, *]) rfl ?_
      obtain ⟨g1, g2, g3⟩ := Hrem.out
      have oZ : Only [w.heap.size] (wr.setCell ⟨r, 2, none⟩ (.slice oa nn oc)) ((((wr.setCell ⟨r, 2, none⟩ (.slice oa nn oc)).setCell ⟨w.heap.size, 0, none⟩ (.int .i64 i)).setCell ⟨w.heap.size, 1, none⟩ (.int .i64 t)).setCell ⟨w.heap.size, 2, none⟩ (.slice xa xn xc)) :=
        (((Only.refl _ _).setCell (.inl (by simp)) _).setCell (.inl (by simp)) _).setCell (.inl (by simp)) _
      refine ⟨oa, oc, rfl, g1.only oZ fun k hk => ?_, fun k hk => (g2 k hk).imp (fun q => q) fun q => by omega, g3.step oZ fun k hk => .inr (by simp at hk; omega)⟩
      have hkne : k ≠ w.heap.size := by
        rcases hk with rfl | hk
        · have := Hr.out
          omega
        · rcases g2 k hk with q | q
          · have := H.out.fs.foot_lt q
            omega
          · omega
      simpa using hkne

theorem rremove_yes (r c : Nat) (a : Option Addr) (G : Mm) (hG : MemOk G) (w : World) (h : RefIs w r a c G) (f : Fc) (hf : f ∈ G.l) :
    Calls Try.prog 27 #[.pointer (some ⟨r, 0, none⟩), .int .i64 f.id] w fun e w' => ∃ a' c', e = .returned (.tuple #[.agg #[.int .i64 f.id, .int .i64 f.t, f.x], .bool true]) ∧ RefIs w' r a' c' (G.del f.id) ∧ (∀ k, FsFoot a' (G.del f.id).l k → FsFoot a G.l k ∨ w.heap.size ≤ k) ∧ Only [r] w w' :=
  rremove_of r c a G w h f.id f.id f.t f.x true (h.fs.vals f hf).form fun V hV => rget_yes r c a G hG V (h.only (Only.of_below hV []) (by simp)) f hf
theorem rremove_no (r c : Nat) (a : Option Addr) (G : Mm) (w : World) (h : RefIs w r a c G) (id : Int) (hid : ∀ f ∈ G.l, f.id ≠ id) :
    Calls Try.prog 27 #[.pointer (some ⟨r, 0, none⟩), .int .i64 id] w fun e w' => ∃ a' c', e = .returned (.tuple #[.agg #[.int .i64 0, .int .i64 0, .slice none 0 0], .bool false]) ∧ RefIs w' r a' c' (G.del id) ∧ (∀ k, FsFoot a' (G.del id).l k → FsFoot a G.l k ∨ w.heap.size ≤ k) ∧ Only [r] w w' :=
  rremove_of r c a G w h id 0 0 (.slice none 0 0) false ⟨_, _, _, rfl⟩ fun V hV => rget_no r c a G V (h.only (Only.of_below hV []) (by simp)) id hid

/-- The memory's Copy: the facts' values are shared. -/
theorem mcopy_any (b mm : Nat) (M : Mm) (w : World) (h : MemIs w b mm M) :
    Calls Try.prog 29 #[.pointer (some ⟨b, 0, none⟩)] w fun e w' => ∃ b' mm', e = .returned (.pointer (some ⟨b', 0, none⟩)) ∧ MemIs w' b' mm' M ∧ Below w.heap.size w w' ∧ w.heap.size ≤ b' ∧ w.heap.size ≤ mm' := by
  obtain ⟨lim, last, L⟩ := M
  obtain ⟨es, clock, h1, h2, h3⟩ := h.map
  obtain ⟨c0, c1, c2, f0, f1, f2⟩ := h.at
  simp only at c0 c1
  have hbw := lt_of_heap h.cells
  have HBk := hide h.cells
  have HX := hide fun f hf => (h.vals f hf).1
  have hlx := hide fun f hf hs k hk => ((h.vals f hf).1).blk_lt (k := k) hs hk
  have hcl : ∀ V : World, V.heap[mm]? = some (.map es clock) → Calls Try.prog 51 #[.map (some mm)] V _ := fun V hV => AnyW.maps_Clone Try.cloneF mm es clock V hV
  have hb1 : Below w.heap.size w (w.alloc (.cells #[.int .i64 lim, .int .i64 last, .map (some mm)] 69)) := ((Only.refl [] w).alloc _).below
  have hmp := (hb1.block mm (lt_of_heap h1)).trans h1
  have Hcl := hide (hcl _ hmp)
  have X1 := hide (heap_new w (.cells #[.int .i64 lim, .int .i64 last, .map (some mm)] 69))
  have HM : Hid (es.toList.map (fun e => (e.key, e.val)) = (L.map Fc.pair).map (fun p => (Value.int .i64 p.1, p.2))) := h3
  have HS := hide h2
  clear h h1 h2 h3 hcl hb1 hmp
  go_enter Try.func29, Try.ntmps29
  go_wp2_with (go_at_call 34; refine (none_some b mm _ c2).mono ?_; rintro e w' ⟨rfl, rfl⟩)
  (with_reducible refine Hcl.out.mono ?_)
  rintro e w' ⟨rfl, rfl⟩
  have x1 := X1.out
  obtain ⟨z0, z1, z2, z3, z4, z5⟩ := cells3 x1
  have key : Hid (∀ W', W'.heap[w.heap.size]? = some (.cells #[.int .i64 lim, .int .i64 last, .map (some (w.heap.size + 1))] 69 (0, 0)) → W'.heap[w.heap.size + 1]? = some (.map es clock) → Below w.heap.size w W' → MemIs W' w.heap.size (w.heap.size + 1) ⟨lim, last, L⟩) := hide fun W' e1 e2 hb =>
    ⟨e1, ⟨es, clock, e2, HS.out, HM.out⟩, fun f hf => ⟨(HX.out f hf).only (Only.of_below hb []) (by simp), fun hs k hk => by
      have := hlx.out f hf hs k hk
      omega⟩⟩
  clear x1
  go_wp2
  go_ret
  have hA := heap_alloc2 w (.cells #[.int .i64 lim, .int .i64 last, .map (some (w.heap.size + 1))] 69) (.map es clock)
  have hBl : Below w.heap.size w ((w.alloc (.cells #[.int .i64 lim, .int .i64 last, .map (some (w.heap.size + 1))] 69)).alloc (.map es clock)) := ((Below.refl w.heap.size w).alloc (Nat.le_refl _) _).alloc (by simp) _
  exact ⟨_, _, rfl, key.out _ hA.1 hA.2 hBl, hBl, Nat.le_refl _, Nat.le_succ _⟩

theorem one_fact {w : World} {b : Nat} {i t : Int} {x : Value} {s : List Vl} (h : w.heap[b]? = some (.cells #[.int .i64 i, .int .i64 t, x] 34 (0, 0))) (hx : SlIs w x s) : FsIs w (some ⟨b, 0, none⟩) [⟨i, t, s, x⟩] := by
  obtain ⟨c0, c1, c2, _⟩ := cells3 h
  refine ⟨by simp, .inl ⟨b, 0, rfl, fun j hj => ?_⟩, fun f hf => by rw [List.mem_singleton.1 hf]; exact hx⟩
  obtain rfl : j = 0 := by simp at hj; omega
  exact ⟨c0, c1, c2⟩

set_option maxHeartbeats 1000000 in
theorem fact_same (i t : Int) (x y : Value) (s : List Vl) (ok : Bool) (w : World) (hx : SlIs w x s) (hy : SlIs w y s) :
    Calls Try.prog 28 #[.agg #[.int .i64 i, .int .i64 t, x], .bool ok, .agg #[.int .i64 i, .int .i64 t, y], .bool ok] w fun e w' => e = .returned (.bool true) ∧ Below w.heap.size w w' := by
  have hb4 : Below w.heap.size w ((((w.alloc (.cells #[.int .i64 i, .int .i64 t, x] 34)).alloc (.cells #[.int .i64 i, .int .i64 t, y] 34)).alloc (.cells #[.int .i64 i, .int .i64 t, x] 34)).alloc (.cells #[.int .i64 i, .int .i64 t, y] 34)) := ((((Only.refl [] w).alloc _).alloc _).alloc _ |>.alloc _).below
  have hA := heap_alloc2 ((w.alloc (.cells #[.int .i64 i, .int .i64 t, x] 34)).alloc (.cells #[.int .i64 i, .int .i64 t, y] 34)) (.cells #[.int .i64 i, .int .i64 t, x] 34) (.cells #[.int .i64 i, .int .i64 t, y] 34)
  have hA0 := heap_alloc2 w (.cells #[.int .i64 i, .int .i64 t, x] 34) (.cells #[.int .i64 i, .int .i64 t, y] 34)
  rw [show ((w.alloc (.cells #[.int .i64 i, .int .i64 t, x] 34)).alloc (.cells #[.int .i64 i, .int .i64 t, y] 34)).heap.size = w.heap.size + 2 by simp] at hA
  have hs := sameF_any (some ⟨w.heap.size + 2, 0, none⟩) (some ⟨w.heap.size + 3, 0, none⟩) 1 1 [⟨i, t, s, x⟩] [⟨i, t, s, y⟩] _ (one_fact hA.1 (hx.only (Only.of_below hb4 []) (by simp))) (one_fact hA.2 (hy.only (Only.of_below hb4 []) (by simp)))
  rw [show decide ([(⟨i, t, s, x⟩ : Fc)].map Fc.say = [(⟨i, t, s, y⟩ : Fc)].map Fc.say) = true by simp [Fc.say], show ([(⟨i, t, s, x⟩ : Fc)].length) = 1 from rfl, show ([(⟨i, t, s, y⟩ : Fc)].length) = 1 from rfl] at hs
  have Hs := hide hs
  have HB := hide hb4
  obtain ⟨xa, xn, xc, rfl⟩ := hx.form
  obtain ⟨ya, yn, yc, rfl⟩ := hy.form
  clear hx hy hs hb4 hA hA0
  go_enter Try.func28, Try.ntmps28
  go_wp2_with fail
  (with_reducible refine Hs.out.mono ?_)
  rintro e V ⟨rfl, n, rfl⟩
  go_wp2
  go_ret
  exact ⟨rfl, below_drewN HB.out n⟩
end Go.Proofs.Yteealadflekffaa
