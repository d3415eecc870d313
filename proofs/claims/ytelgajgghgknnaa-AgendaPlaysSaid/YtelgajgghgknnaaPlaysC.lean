/- AgendaPlays: each kind of call, as a chain of contracts: both agendas say the same behind it. No step of the walk is in here. -/
import Derived.Test.YtelgajgghgknnaaPlaysW
import Derived.Test.YtelgajgghgknnaaRAg6
namespace Go.Proofs.Ytelgajgghgknnaa
open Go Go.RowKit Go.MapKept Go.Sort

def Cells6 (V : World) (O : Nat) (k : Int) (vg vc : Value) (X : Ac) : Prop :=
  V.cell? ⟨O, 0, none⟩ = some (.int .i64 k) ∧ V.cell? ⟨O, 1, none⟩ = some vg ∧ V.cell? ⟨O, 2, none⟩ = some vc ∧ V.cell? ⟨O, 3, none⟩ = some (.int .i64 X.rule) ∧ V.cell? ⟨O, 4, none⟩ = some X.x ∧ V.cell? ⟨O, 5, none⟩ = some (.int .i64 X.sal)
/-- The call at hand lies in block O. -/
def OpBox (V : World) (O : Nat) (k : Int) (vg vc : Value) (X : Ac) : Prop := V.heap[O]? = some (.cells #[.int .i64 k, vg, vc, .int .i64 X.rule, X.x, .int .i64 X.sal] 44 (0, 0))
theorem OpBox.cells {V : World} {O : Nat} {k : Int} {vg vc : Value} {X : Ac} (h : OpBox V O k vg vc X) : Cells6 V O k vg vc X := by
  unfold OpBox at h
  simp [Cells6, World.cell?, h]
theorem OpBox.below {w V : World} {O : Nat} {k : Int} {vg vc : Value} {X : Ac} (h : OpBox w O k vg vc X) (hb : Below w.heap.size w V) : OpBox V O k vg vc X := (hb.block O (lt_of_heap h)).trans h
theorem OpBox.ag {w V : World} {O B b : Nat} {k s : Int} {vg vc v : Value} {X : Ac} {le : List En} (h : OpBox w O k vg vc X) (hA : AgIs B w b s v le) (ho : AgOnly b v w V) : OpBox V O k vg vc X := by
  refine (ho.block O (lt_of_heap h) fun hm => ?_).trans h
  simp only [List.mem_cons, Option.mem_toList] at hm
  rcases hm with rfl | hm
  · have h1 := hA.blk
    unfold OpBox at h
    rw [h] at h1
    simp at h1
  · exact owns_not hA.ens.own h (by decide) hm
theorem OpBox.ref {w0 w V : World} {O b' : Nat} {k s : Int} {vg vc vL vF : Value} {X : Ac} {L F : List Ac} (h : OpBox w O k vg vc X) (hR : RefIs w0 w b' s vL vF L F) (ho : Only [b'] w V) : OpBox V O k vg vc X := by
  refine (ho.block O (lt_of_heap h) fun hm => ?_).trans h
  simp only [List.mem_singleton] at hm
  subst hm
  have h1 := hR.blk
  unfold OpBox at h
  rw [h] at h1
  simp at h1

/-- Both agendas, at the k-th call. -/
structure St (w0 w : World) (b b' : Nat) (s : Int) (k : Nat) (v vL vF : Value) (le : List En) (L F : List Ac) : Prop where
  ag : AgIs w0.heap.size w b s v le
  rf : RefIs w0 w b' s vL vF L F
  rel : PRel le L F
  nl : le.length ≤ 20 * k
  nL : L.length ≤ 20 * k
  nF : F.length ≤ k
/-- Both agendas say the same. -/
def Both (w0 w : World) (b b' : Nat) (s : Int) (k : Nat) : Prop := ∃ v vL vF le L F, St w0 w b b' s k v vL vF le L F
theorem St.below {w0 w V : World} {b b' k : Nat} {s : Int} {v vL vF : Value} {le : List En} {L F : List Ac} (h : St w0 w b b' s k v vL vF le L F) (hb : Below w.heap.size w V) : St w0 V b b' s k v vL vF le L F := ⟨h.ag.below hb, h.rf.to hb, h.rel, h.nl, h.nL, h.nF⟩
theorem St.next {w0 w : World} {b b' k : Nat} {s : Int} {v vL vF : Value} {le : List En} {L F : List Ac} (h : St w0 w b b' s k v vL vF le L F) : St w0 w b b' s (k + 1) v vL vF le L F := ⟨h.ag, h.rf, h.rel, by have := h.nl; omega, by have := h.nL; omega, by have := h.nF; omega⟩

/-- The call's arguments: memory of w0. -/
structure AO (w0 : World) (vg vc : Value) (G C : List Ac) (X : Ac) : Prop where
  g : ActsIs w0 vg G
  c : ActsIs w0 vc C
  x : NIs w0 X.x X.tup
  lg : G.length ≤ 20
  lc : C.length ≤ 20

theorem fireAt_length (l : List En) (x : Ac) : (fireAt l x).length = l.length := by
  have := congrArg List.length (fireAt_acs l x)
  simpa using this

/-- Kind 1. -/
theorem chain1 {w0 w : World} {b b' k O : Nat} {s kd : Int} {v vL vF vg vc : Value} {le : List En} {L F G C : List Ac} {X : Ac} (h : St w0 w b b' s k v vL vF le L F) (ha : AO w0 vg vc G C X) (hbx : OpBox w O kd vg vc X) (hk : k < 60) :
    Calls Try.prog 21 #[vc] w fun r V1 => ∃ va c, r = .returned (.slice va C.length c) ∧ Cells6 V1 O kd vg vc X ∧
      Calls Try.prog 11 #[.pointer (some ⟨b, 0, none⟩), vg, .slice va C.length c] V1 fun r V2 => r = .returned (.tuple #[]) ∧ Cells6 V2 O kd vg vc X ∧
        Calls Try.prog 22 #[.pointer (some ⟨b', 0, none⟩), vg, vc] V2 fun r V3 => r = .returned (.tuple #[]) ∧
          Calls Try.prog 23 #[.slice va C.length c] V3 fun r V4 => r = .returned (.tuple #[]) ∧ Both w0 V4 b b' s (k + 1) := by
  have hB := h.ag.hB
  have hzw := h.rf.below.size
  have n1 := h.nl; have n2 := h.nL; have n3 := h.nF
  have lg := ha.lg; have lc := ha.lc
  refine (own_any vc C w (ha.c.below h.rf.below) ha.lc).mono ?_
  rintro r V1 ⟨v', lk, rfl, hO, hco, hb1⟩
  have hlk : lk.length = C.length := by have := congrArg List.length hco; simpa using this
  obtain ⟨va, c, rfl⟩ := hO.form
  rw [hlk] at hO ⊢
  have h1 := h.below hb1
  have hx1 := hbx.below hb1
  have hz1 := hb1.size
  refine ⟨va, c, rfl, hx1.cells, ?_⟩
  have hlt : ∀ k, v.ownBlock = some k → k < w.heap.size := fun k e => (h.ag.ens.own.lt _ e).2
  have hlow : ∀ i ∈ b :: v.ownBlock.toList, i < w.heap.size := fun i hi => by
    simp only [List.mem_cons, Option.mem_toList] at hi
    rcases hi with rfl | hi
    · exact lt_of_heap h.ag.blk
    · exact hlt i hi
  have hargs : ∀ V, AgOnly b v V1 V → Below w0.heap.size w0 V := fun V hV => (h1.rf.ag h1.ag (Nat.le_refl _) hV).below
  refine (change_new w0.heap.size b s v le vg _ G lk V1 h1.ag (by omega) (fun V hV => ha.g.below (hargs V hV)) (fun V hV => by
    have := (hO.keep hV hlow).acts (by omega)
    exact this) (by omega)).mono ?_
  rintro r V2 ⟨rfl, v2, l2, hA2, hl2, hO2, hS2, hN2⟩
  have hR2 := h1.rf.ag h1.ag (Nat.le_refl _) hO2
  have hx2 := hx1.ag h1.ag hO2
  refine ⟨rfl, hx2.cells, ?_⟩
  refine (rChange_any b' s vL vF L F vg vc G C V2 hR2 ha.g ha.c (by omega)).mono ?_
  rintro r V3 ⟨rfl, ⟨vL', vF', hR3⟩, hO3⟩
  have hA3 := hA2.ref hR2 hO3
  refine ⟨rfl, ?_⟩
  have hb'w : b' < w.heap.size := lt_of_heap h.rf.blk
  have hout3 := (hO.keep hO2 hlow).keep hO3 (fun i hi => by simp only [List.mem_singleton] at hi; omega)
  have hsp := hout3.spoils (by omega)
  have hcap : C.length ≤ c := by
    rcases hout3.own.2 with ⟨q, _⟩ | ⟨g, cap, cur, q, _, _, hc, _⟩
    · simp only [Value.slice.injEq] at q; omega
    · simp only [Value.slice.injEq] at q; omega
  have hr : ∀ a ∈ lk, ∃ (n : Nat) (t : List Value), V3.ownsRow w.heap.size 3 1 a.x n t := fun a ha => ⟨_, _, (hout3.tups a ha).2⟩
  have hspc := spoil_any w.heap.size va c lk V3 (by rw [hlk]; exact hsp) (by omega) (by omega) (fun i hi => (hout3.tups _ (List.getElem_mem hi)).1)
  rw [hlk] at hspc
  refine hspc.mono ?_
  rintro r V4 ⟨rfl, _, hO4⟩
  have hrel := (h.rel.dropAll (G := G)).layAll (D := C) hl2 hco.symm
  have hA4 := hA3.spoil hr (fun e he i hi => by
    obtain ⟨a, ha', ea⟩ := tupBlocks_mem.1 hi
    have hi1 := ((hO.tups a ha').2.lt _ ea)
    rcases hN2 e he with ⟨f, hf, ef⟩ | q
    · rw [← ef]
      intro q
      have := ((h.ag.ens.tups f hf).2.lt _ q).2
      omega
    · intro q'
      have := q _ q'
      omega) hO4
  have hR4 := hR3.spoil hr hzw hO4
  have hll := hl2.length
  have hdl := dropped_all_length G le
  have hcl := comeL_length (L := goneL L G) (C := C)
  have hgl := (goneL_sub (L := L) (G := G)).1
  have hgf := (goneL_sub (L := F) (G := G)).1
  exact ⟨rfl, v2, vL', vF', l2, _, _, hA4, hR4, hrel, by omega, by omega, by omega⟩

/-- Kind 2: in both orders. -/
theorem chain2 {w0 w : World} {b b' k O : Nat} {s kd : Int} {v vL vF vg vc : Value} {le : List En} {L F G C : List Ac} {X : Ac} (h : St w0 w b b' s k v vL vF le L F) (ha : AO w0 vg vc G C X) (hbx : OpBox w O kd vg vc X) (hk : k < 60) :
    ∃ p : Bool, (Calls Try.prog 14 #[.pointer (some ⟨b, 0, none⟩), X.val] w fun r V1 => r = .returned (.bool p) ∧ Cells6 V1 O kd vg vc X ∧
        Calls Try.prog 24 #[.pointer (some ⟨b', 0, none⟩), X.val] V1 fun r V2 => r = .returned (.bool p) ∧ Cells6 V2 O kd vg vc X ∧ Both w0 V2 b b' s (k + 1)) ∧
      (Calls Try.prog 24 #[.pointer (some ⟨b', 0, none⟩), X.val] w fun r V1 => r = .returned (.bool p) ∧ Cells6 V1 O kd vg vc X ∧
        Calls Try.prog 14 #[.pointer (some ⟨b, 0, none⟩), X.val] V1 fun r V2 => r = .returned (.bool p) ∧ Cells6 V2 O kd vg vc X ∧ Both w0 V2 b b' s (k + 1)) := by
  have n1 := h.nl; have n2 := h.nL; have n3 := h.nF
  obtain ⟨hp, hrel⟩ := h.rel.fire (x := X) (z := X) rfl
  have hl1 : ∀ q : Bool, (if q then fireAt le X else le).length = le.length := fun q => by cases q <;> simp [fireAt_length]
  have hl2 : ∀ q : Bool, (if q then F ++ [X] else F).length ≤ F.length + 1 := fun q => by cases q <;> simp
  refine ⟨(L.any fun a => a.same X) && !(F.any fun a => a.same X), ?_, ?_⟩
  · refine (fire_any _ b s v le X w h.ag (ha.x.below h.rf.below)).mono ?_
    rintro r V1 ⟨rfl, hA1, hO1⟩
    have hR1 := h.rf.ag h.ag (Nat.le_refl _) hO1
    rw [hp] at hA1 hrel
    refine ⟨by rw [hp], (hbx.ag h.ag hO1).cells, ?_⟩
    refine (rFire_any b' s vL vF L F X V1 hR1 ha.x (by omega)).mono ?_
    rintro r V2 ⟨rfl, ⟨vF', hR2⟩, hO2⟩
    exact ⟨rfl, ((hbx.ag h.ag hO1).ref hR1 hO2).cells, v, vL, vF', _, L, _, hA1.ref hR1 hO2, hR2, hrel, by rw [hl1]; omega, by omega, by have := hl2 ((L.any fun a => a.same X) && !(F.any fun a => a.same X)); omega⟩
  · refine (rFire_any b' s vL vF L F X w h.rf ha.x (by omega)).mono ?_
    rintro r V1 ⟨rfl, ⟨vF', hR1⟩, hO1⟩
    have hA1 := h.ag.ref h.rf hO1
    refine ⟨rfl, (hbx.ref h.rf hO1).cells, ?_⟩
    refine (fire_any _ b s v le X V1 hA1 (ha.x.below hR1.below)).mono ?_
    rintro r V2 ⟨rfl, hA2, hO2⟩
    rw [hp] at hA2 hrel
    exact ⟨by rw [hp], ((hbx.ref h.rf hO1).ag hA1 hO2).cells, v, vL, vF', _, L, _, hA2, hR1.ag hA1 (Nat.le_refl _) hO2, hrel, by rw [hl1]; omega, by omega, by have := hl2 ((L.any fun a => a.same X) && !(F.any fun a => a.same X)); omega⟩

/-- Kind 4. -/
theorem chain4 {w0 w : World} {b b' k : Nat} {s : Int} {v vL vF : Value} {le : List En} {L F : List Ac} (h : St w0 w b b' s k v vL vF le L F) (hk : k < 60) :
    Calls Try.prog 26 #[.pointer (some ⟨b, 0, none⟩)] w fun r V1 => ∃ c, r = .returned (.pointer (some ⟨c, 0, none⟩)) ∧
      Calls Try.prog 12 #[.pointer (some ⟨c, 0, none⟩)] V1 fun r V2 => ∃ va n vc, r = .returned (.slice va n vc) ∧
        Calls Try.prog 11 #[.pointer (some ⟨b, 0, none⟩), .slice va n vc, .slice none 0 0] V2 fun r V3 => r = .returned (.tuple #[]) ∧
          Calls Try.prog 27 #[.pointer (some ⟨b', 0, none⟩)] V3 fun r V4 => ∃ b2, r = .returned (.pointer (some ⟨b2, 0, none⟩)) ∧ Both w0 V4 c b2 s (k + 1) := by
  have hzw := h.rf.below.size
  have n1 := h.nl; have n2 := h.nL; have n3 := h.nF
  refine (copy_any _ b s v le w h.ag hzw).mono ?_
  rintro r V1 ⟨c, v1, rfl, hC1, hb1, hc, hv1⟩
  have h1 := h.below hb1
  refine ⟨c, rfl, ?_⟩
  refine (all_any _ c s v1 le V1 hC1).mono ?_
  rintro r V2 ⟨v2, R, rfl, hR2, hco, hb2⟩
  have hz1 := hb1.size
  have hz2 := hb2.size
  obtain ⟨va, vc, rfl⟩ := hR2.acts.form
  have h2 := h1.below hb2
  have hC2 := hC1.below hb2
  have hlR : R.length = le.length := by have := congrArg List.length hco; rw [sortC_length] at this; simpa using this
  refine ⟨va, _, vc, rfl, ?_⟩
  have hlow : ∀ i ∈ b :: v.ownBlock.toList, i < w.heap.size := fun i hi => by
    simp only [List.mem_cons, Option.mem_toList] at hi
    rcases hi with rfl | hi
    · exact lt_of_heap h.ag.blk
    · exact (h.ag.ens.own.lt _ hi).2
  refine (change_any _ b s v le _ (.slice none 0 0) R [] V2 h2.ag (by omega) (fun V hV => (hR2.keep hV (fun i hi => by have := hlow i hi; omega)).acts) (fun V _ => acts_none V) (by simp; omega)).mono ?_
  rintro r V3 ⟨rfl, v3, l3, _, _, hO3, _⟩
  have hR3 := h2.rf.ag h2.ag (Nat.le_refl _) hO3
  have hbw : b < w.heap.size := lt_of_heap h.ag.blk
  have hC3 := hC2.apart h2.ag (by omega) (fun i e q => by have := hv1 i e; have := (h.ag.ens.own.lt _ q).2; omega) hO3
  refine ⟨rfl, ?_⟩
  refine (rCopy_any b' s vL vF L F V3 hR3).mono ?_
  rintro r V4 ⟨b2, vL', vF', rfl, _, hR4, hb4⟩
  exact ⟨b2, rfl, v1, vL', vF', le, L, F, hC3.below hb4, hR4, h.rel, by omega, by omega, by omega⟩

/-- Kind 5. -/
theorem chain5 {w0 w : World} {b b' k O : Nat} {s kd : Int} {v vL vF vg vc : Value} {le : List En} {L F G C : List Ac} {X : Ac} (h : St w0 w b b' s k v vL vF le L F) (ha : AO w0 vg vc G C X) (hbx : OpBox w O kd vg vc X) (hk : k < 60) :
    Calls Try.prog 26 #[.pointer (some ⟨b, 0, none⟩)] w fun r V1 => ∃ c, r = .returned (.pointer (some ⟨c, 0, none⟩)) ∧ Cells6 V1 O kd vg vc X ∧
      Calls Try.prog 14 #[.pointer (some ⟨c, 0, none⟩), X.val] V1 fun r V2 => ∃ p, r = .returned (.bool p) ∧ Cells6 V2 O kd vg vc X ∧
        Calls Try.prog 11 #[.pointer (some ⟨c, 0, none⟩), vg, vc] V2 fun r V3 => r = .returned (.tuple #[]) ∧ Both w0 V3 b b' s (k + 1) := by
  have hzw := h.rf.below.size
  have n1 := h.nl; have n2 := h.nL; have n3 := h.nF
  have lg := ha.lg; have lc := ha.lc
  refine (copy_any _ b s v le w h.ag hzw).mono ?_
  rintro r V1 ⟨c, v1, rfl, hC1, hb1, hc, hv1⟩
  have hbx1 := hbx.below hb1
  have hz1 := hb1.size
  refine ⟨c, rfl, hbx1.cells, ?_⟩
  have hfresh : ∀ i ∈ c :: v1.ownBlock.toList, w.heap.size ≤ i := fun i hi => by
    simp only [List.mem_cons, Option.mem_toList] at hi
    rcases hi with rfl | hi
    · exact hc
    · exact hv1 i hi
  refine (fire_any _ c s v1 le X V1 hC1 (ha.x.below (h.rf.to hb1).below)).mono ?_
  rintro r V2 ⟨rfl, hA2, hO2⟩
  have hb2 : Below w.heap.size w V2 := below_only hb1 hO2 hfresh hb1.size
  refine ⟨_, rfl, (hbx.below hb2).cells, ?_⟩
  have hl1 : ∀ q : Bool, (if q then fireAt le X else le).length = le.length := fun q => by cases q <;> simp [fireAt_length]
  have hz2 := hb2.size
  refine (change_any _ c s v1 _ vg vc G C V2 hA2 (by omega) (fun V hV => ha.g.below ((h.rf.to (below_only hb2 hV hfresh hb2.size)).below)) (fun V hV => ha.c.below ((h.rf.to (below_only hb2 hV hfresh hb2.size)).below)) (by rw [hl1]; omega)).mono ?_
  rintro r V3 ⟨rfl, v3, l3, _, _, hO3, _⟩
  exact ⟨rfl, v, vL, vF, le, L, F, (h.below (below_only hb2 hO3 hfresh hb2.size)).next⟩

def Box3 (V : World) (B : Nat) (r : Int) (x : Value) (t : Int) : Prop := V.cell? ⟨B, 0, none⟩ = some (.int .i64 r) ∧ V.cell? ⟨B, 1, none⟩ = some x ∧ V.cell? ⟨B, 2, none⟩ = some (.int .i64 t)
theorem Box3.below {w V : World} {B : Nat} {r t : Int} {x : Value} (h : Box3 w B r x t) (hb : Below w.heap.size w V) : Box3 V B r x t :=
  have hlt := lt_of_cell h.1
  ⟨(hb.cell (p := ⟨B, 0, none⟩) hlt).trans h.1, (hb.cell (p := ⟨B, 1, none⟩) hlt).trans h.2.1, (hb.cell (p := ⟨B, 2, none⟩) hlt).trans h.2.2⟩
theorem box3_new (V : World) (r t : Int) (x : Value) : Box3 (V.alloc (.cells #[.int .i64 r, x, .int .i64 t] 27)) V.heap.size r x t := by
  obtain ⟨c0, c1, c2, _⟩ := cells3a (heap_alloc0 V (.cells #[.int .i64 r, x, .int .i64 t] 27))
  exact ⟨c0, c1, c2⟩

/-- What is told behind the list: nothing to fire, or the first one, fired in both. -/
def Told3 (w0 V2 : World) (b b' : Nat) (s : Int) (k B : Nat) (yr ys : Int) (ya : Option Addr) (yn yc : Nat) (q : Bool) (za : Option Addr) (zn zc : Nat) : Prop :=
  (q = false ∧ zn = 0 ∧ Both w0 V2 b b' s (k + 1)) ∨
  (q = true ∧ ∃ zg zo, za = some ⟨zg, zo, none⟩ ∧ 0 < zn ∧ 1 ≤ zc ∧ Box3 V2 B yr (.slice ya yn yc) ys ∧ B < V2.heap.size ∧
    Calls Try.prog 19 #[.slice (some ⟨V2.heap.size, 0, none⟩) 1 1, .slice (some ⟨zg, zo, none⟩) 1 zc] ((V2.alloc (.cells #[.int .i64 yr, .slice ya yn yc, .int .i64 ys] 27)).drew) fun r V3 => r = .returned (.bool true) ∧ Box3 V3 B yr (.slice ya yn yc) ys ∧
      Calls Try.prog 14 #[.pointer (some ⟨b, 0, none⟩), .agg #[.int .i64 yr, .slice ya yn yc, .int .i64 ys]] V3 fun r V4 => r = .returned (.bool true) ∧ Box3 V4 B yr (.slice ya yn yc) ys ∧
        ∃ zr zs zxa zxn zxc, V4.cell? ⟨zg, zo, none⟩ = some (.int .i64 zr) ∧ V4.cell? ⟨zg, zo + 1, none⟩ = some (.slice zxa zxn zxc) ∧ V4.cell? ⟨zg, zo + 2, none⟩ = some (.int .i64 zs) ∧
          Calls Try.prog 24 #[.pointer (some ⟨b', 0, none⟩), .agg #[.int .i64 zr, .slice zxa zxn zxc, .int .i64 zs]] V4 fun r V5 => ∃ p, r = .returned (.bool p) ∧ Both w0 V5 b b' s (k + 1))

/-- Kind 3. -/
theorem chain3 {w0 w : World} {b b' k : Nat} {s : Int} {v vL vF : Value} {le : List En} {L F : List Ac} (h : St w0 w b b' s k v vL vF le L F) (hk : k < 60) :
    Calls Try.prog 18 #[.pointer (some ⟨b, 0, none⟩)] w fun r V1 => ∃ yr ya yn yc ys q, r = .returned (.tuple #[.agg #[.int .i64 yr, .slice ya yn yc, .int .i64 ys], .bool q]) ∧
      Calls Try.prog 25 #[.pointer (some ⟨b', 0, none⟩)] (V1.alloc (.cells #[.int .i64 yr, .slice ya yn yc, .int .i64 ys] 27)) fun r V2 => ∃ za zn zc, r = .returned (.slice za zn zc) ∧ Told3 w0 V2 b b' s k V1.heap.size yr ys ya yn yc q za zn zc := by
  have hzw := h.rf.below.size
  have n1 := h.nl; have n2 := h.nL; have n3 := h.nF
  have hopen := h.rel.open s
  refine (next_any _ b s v le w h.ag).mono ?_
  rintro r V1 ⟨y, q, rfl, hn, hb1⟩
  have h1 := h.below hb1
  rw [hopen] at hn
  cases hcs : sortC s ((openR L F).map Ac.co) with
  | nil =>
    rw [hcs] at hn
    obtain ⟨rfl, rfl⟩ := hn
    refine ⟨0, none, 0, 0, 0, false, rfl, ?_⟩
    have h2 := h1.below ((Only.refl [] V1).alloc (.cells #[.int .i64 0, .slice none 0 0, .int .i64 0] 27)).below
    refine (rList_any b' s vL vF L F _ h2.rf).mono ?_
    rintro r V2 ⟨v', l', rfl, hz, _, hco, hb2, _⟩
    rw [hcs] at hco
    have hl0 : l' = [] := by simpa using hco
    subst hl0
    obtain ⟨za, zc, rfl⟩ := hz.form
    exact ⟨za, 0, zc, rfl, .inl ⟨rfl, rfl, _, _, _, _, _, _, (h2.below hb2).next⟩⟩
  | cons c0 cs =>
    rw [hcs] at hn
    obtain ⟨rfl, Y, rfl, hYc, hYl, hYr⟩ := hn
    obtain ⟨yr, yt, ys, yx⟩ := Y
    obtain ⟨ya, yc, hyx⟩ := row_form hYr
    simp only at hyx hYl hYr
    subst hyx
    refine ⟨yr, ya, yt.length, yc, ys, true, rfl, ?_⟩
    have hbB := ((Only.refl [] V1).alloc (.cells #[.int .i64 yr, .slice ya yt.length yc, .int .i64 ys] 27)).below
    have h2 := h1.below hbB
    have hYn : NIs V1 (.slice ya yt.length yc) yt := NIs.of_row hYl hYr
    refine (rList_any b' s vL vF L F _ h2.rf).mono ?_
    rintro r V2 ⟨v', l', rfl, hz, hsub, hco, hb2, hrowz⟩
    rw [hcs] at hco
    obtain ⟨Z, l2, rfl, hZc, _⟩ := List.map_eq_cons_iff.1 hco
    have hZL := hsub Z (.head _)
    have hopenZ : Z.co ∈ (openR L F).map Ac.co := by
      have : Z.co ∈ sortC s ((openR L F).map Ac.co) := by rw [hcs, hZc]; exact .head _
      exact sortC_mem.1 this
    obtain ⟨Z', hZ', hZZ⟩ := List.mem_map.1 hopenZ
    have hZ'2 := List.mem_filter.1 hZ'
    have hLany : (L.any fun a => a.same Z) = true := List.any_eq_true.2 ⟨Z, hZL, by simp [Ac.same]⟩
    have hFany : (F.any fun a => a.same Z) = false := by
      have := hZ'2.2
      rw [anyL, ← hZZ, ← anyL]
      simpa using this
    have hz0 := hz.at (k := 0) (by simp)
    obtain ⟨zg, zo, zc, zxa, zxc, rfl, hzx, c0, c1, c2⟩ := hz0
    simp only [List.getElem_cons_zero, Nat.zero_mul, Nat.add_zero] at hzx c0 c1 c2
    have hcap' : l2.length + 1 ≤ zc := by
      rcases hrowz.2 with ⟨q, _⟩ | ⟨g, cap, cur, q, _, _, hc, _⟩
      · cases q
      · simp only [Value.slice.injEq] at q; simp only [List.length_cons] at hc q; omega
    have hzgb : w.heap.size < zg := by
      have := (hrowz.lt zg rfl).1
      have := hb1.size
      simp at this ⊢
      simp at *
      omega
    refine ⟨_, _, _, rfl, .inr ⟨rfl, zg, zo, rfl, by simp, by omega, (box3_new V1 _ _ _).below hb2, ?_, ?_⟩⟩
    · have := hb2.size
      simp at this
      omega
    have h3 := h2.below hb2
    have hb12 : Below V1.heap.size V1 V2 := hbB.trans (hb2.mono (by simp))
    have hbB3 : Below V2.heap.size V2 ((V2.alloc (.cells #[.int .i64 yr, .slice ya yt.length yc, .int .i64 ys] 27)).drew) := (((Only.refl [] V2).alloc _).drew).below
    have hYn2 := hYn.below hb12
    have hacty : ActsIs ((V2.alloc (.cells #[.int .i64 yr, .slice ya yt.length yc, .int .i64 ys] 27)).drew) (.slice (some ⟨V2.heap.size, 0, none⟩) 1 1) [⟨yr, yt, ys, .slice ya yt.length yc⟩] :=
      acts_cells (a := ⟨yr, yt, ys, .slice ya yt.length yc⟩) (t := 27) (heap_alloc0 V2 _) (hYn2.below hbB3)
    have hz1 : ActsIs V2 (.slice (some ⟨zg, zo, none⟩) 1 zc) [Z] := by
      have := hz.sub' (k := 0) (by simp) zc
      simpa using this
    refine (sameAll_any _ _ _ _ _ hacty (hz1.below hbB3)).mono ?_
    rintro r V3 ⟨rfl, hb3⟩
    have hb23 : Below V2.heap.size V2 V3 := hbB3.trans (hb3.mono (by show _ ≤ (V2.alloc _).heap.size; simp))
    refine ⟨by rw [one_co]; simp [hYc, hZc], ((box3_new V1 _ _ _).below hb2).below hb23, ?_⟩
    have h4 := h3.below hb23
    have hYZ : (⟨yr, yt, ys, .slice ya yt.length yc⟩ : Ac).co = Z.co := hYc.trans hZc.symm
    obtain ⟨hp, hrel⟩ := h.rel.fire hYZ
    have hpt : ((L.any fun a => a.same Z) && !(F.any fun a => a.same Z)) = true := by rw [hLany, hFany]; rfl
    refine (fire_any _ b s v le ⟨yr, yt, ys, .slice ya yt.length yc⟩ V3 h4.ag (hYn2.below hb23)).mono ?_
    rintro r V4 ⟨rfl, hA4, hO4⟩
    rw [hp, hpt] at hA4 hrel
    have hR4 := h4.rf.ag h4.ag (Nat.le_refl _) hO4
    have hz1' := hb1.size
    have hbox4 : Box3 V4 V1.heap.size yr (.slice ya yt.length yc) ys := by
      have hB3 := ((box3_new V1 yr ys (.slice ya yt.length yc)).below hb2).below hb23
      have hn : V1.heap.size ∉ b :: v.ownBlock.toList := by
        simp only [List.mem_cons, Option.mem_toList, not_or]
        exact ⟨by have := lt_of_heap h.ag.blk; omega, fun e => by have := (h.ag.ens.own.lt _ e).2; omega⟩
      have hlt := lt_of_cell hB3.1
      exact ⟨(hO4.cell (p := ⟨V1.heap.size, 0, none⟩) hlt hn).trans hB3.1, (hO4.cell (p := ⟨V1.heap.size, 1, none⟩) hlt hn).trans hB3.2.1, (hO4.cell (p := ⟨V1.heap.size, 2, none⟩) hlt hn).trans hB3.2.2⟩
    refine ⟨by rw [hp, hpt], hbox4, Z.rule, Z.sal, zxa, Z.tup.length, zxc, ?_⟩
    -- the list's row is not the agenda's
    have hbw : b < w.heap.size := lt_of_heap h.ag.blk
    have hzgV : ∀ o u, V2.cell? ⟨zg, o, none⟩ = some u → V4.cell? ⟨zg, o, none⟩ = some u := fun o u hu => by
      have hlt : zg < V2.heap.size := lt_of_cell hu
      have e3 := (hb23.cell (p := ⟨zg, o, none⟩) hlt).trans hu
      refine (hO4.cell (p := ⟨zg, o, none⟩) (lt_of_cell e3) fun hm => ?_).trans e3
      simp only [List.mem_cons, Option.mem_toList] at hm
      rcases hm with hm | hm
      · omega
      · have := (h.ag.ens.own.lt _ hm).2
        omega
    refine ⟨hzgV _ _ c0, hzgV _ _ c1, hzgV _ _ c2, ?_⟩
    have hx0 : NIs w0 Z.x Z.tup := h.rf.tupL Z hZL
    have hrf := rFire_any b' s vL vF L F Z V4 hR4 hx0 (by omega)
    unfold Ac.val at hrf
    rw [hzx] at hrf
    refine hrf.mono ?_
    rintro r V5 ⟨rfl, ⟨vF', hR5⟩, hO5⟩
    rw [hpt] at hR5
    exact ⟨_, rfl, v, vL, vF', _, L, _, hA4.ref hR4 hO5, hR5, hrel, by simp [fireAt_length]; omega, by omega, by simp; omega⟩

/-- What is asked behind each call. -/
theorem chainT {w0 w : World} {b b' k : Nat} {s : Int} {v vL vF : Value} {le : List En} {L F : List Ac} {x : Ac} (h : St w0 w b b' s k v vL vF le L F) (hk : k ≤ 60) (hx : NIs w x.x x.tup) :
    Calls Try.prog 17 #[.pointer (some ⟨b, 0, none⟩)] w fun r V1 => ∃ ra rn rc, r = .returned (.slice ra rn rc) ∧
      Calls Try.prog 12 #[.pointer (some ⟨b, 0, none⟩)] V1 fun r V2 => ∃ qa qn qc, r = .returned (.slice qa qn qc) ∧ Below w.heap.size w V2 ∧
        Hid (∀ V, Hid (Below V2.heap.size V2 V) → Calls Try.prog 25 #[.pointer (some ⟨b', 0, none⟩)] V fun r V' => ∃ ta tn tc, r = .returned (.slice ta tn tc) ∧ Hid (Below V2.heap.size V2 V') ∧ Hid (Calls Try.prog 19 #[.slice ra rn rc, .slice ta tn tc] V' fun r V3 => r = .returned (.bool true) ∧ Hid (Below V2.heap.size V2 V3))) ∧
        Hid (∀ V, Hid (Below V2.heap.size V2 V) → Calls Try.prog 28 #[.pointer (some ⟨b', 0, none⟩)] V fun r V' => ∃ ta tn tc, r = .returned (.slice ta tn tc) ∧ Hid (Below V2.heap.size V2 V') ∧ Hid (Calls Try.prog 19 #[.slice qa qn qc, .slice ta tn tc] V' fun r V3 => r = .returned (.bool true) ∧ Hid (Below V2.heap.size V2 V3))) ∧
        (∃ p, Hid (∀ V, Hid (Below V2.heap.size V2 V) → Calls Try.prog 13 #[.pointer (some ⟨b, 0, none⟩), x.val] V fun r V' => r = .returned (.bool p) ∧ Hid (Below V2.heap.size V2 V')) ∧
          Hid (∀ V, Hid (Below V2.heap.size V2 V) → Calls Try.prog 29 #[.pointer (some ⟨b', 0, none⟩), x.val] V fun r V' => r = .returned (.bool p) ∧ Hid (Below V2.heap.size V2 V'))) ∧
        (∃ p, Hid (∀ V, Hid (Below V2.heap.size V2 V) → Calls Try.prog 16 #[.pointer (some ⟨b, 0, none⟩), x.val] V fun r V' => r = .returned (.bool p) ∧ Hid (Below V2.heap.size V2 V')) ∧
          Hid (∀ V, Hid (Below V2.heap.size V2 V) → Calls Try.prog 30 #[.pointer (some ⟨b', 0, none⟩), x.val] V fun r V' => r = .returned (.bool p) ∧ Hid (Below V2.heap.size V2 V'))) ∧
        Hid (∀ V, Hid (Below V2.heap.size V2 V) → Calls Try.prog 23 #[.slice ra rn rc] V fun r V3 => r = .returned (.tuple #[]) ∧
          Hid (Calls Try.prog 23 #[.slice qa qn qc] V3 fun r V4 => r = .returned (.tuple #[]) ∧ Hid (Both w0 V4 b b' s k))) := by
  have hzw := h.rf.below.size
  have n1 := h.nl; have n2 := h.nL; have n3 := h.nF
  refine (list_any _ b s v le w h.ag).mono ?_
  rintro r V1 ⟨vr, R, rfl, hR, hRc, hb1⟩
  obtain ⟨ra, rc, rfl⟩ := hR.acts.form
  have hRl : R.length ≤ 100000 := by
    have := congrArg List.length hRc
    rw [sortC_length] at this
    simp at this
    have := List.length_filter_le (fun e : En => !e.fired) le
    omega
  refine ⟨ra, _, rc, rfl, ?_⟩
  refine (all_any _ b s v le V1 (h.ag.below hb1)).mono ?_
  rintro r V2 ⟨vq, Q, rfl, hQ, hQc, hb2⟩
  obtain ⟨qa, qc, rfl⟩ := hQ.acts.form
  have hQl : Q.length ≤ 100000 := by
    have := congrArg List.length hQc
    rw [sortC_length] at this
    simp at this
    omega
  have hz1 := hb1.size
  have hz2 := hb2.size
  have hbw2 : Below w.heap.size w V2 := hb1.trans (hb2.mono hz1)
  have h2 := h.below hbw2
  have hx2 := hx.below hbw2
  have hR2 : ResIs w.heap.size V2 (.slice ra R.length rc) R := hR.keep (Only.of_below hb2 []) (by simp)
  have hhas := h.rel.has (x := x) (z := x) rfl
  have hfired := h.rel.isFired (x := x) (z := x) rfl
  refine ⟨qa, _, qc, rfl, hbw2, hide fun V HV => ?_, hide fun V HV => ?_, ⟨hasE le x, hide fun V HV => ?_, hide fun V HV => ?_⟩, ⟨firedE le x, hide fun V HV => ?_, hide fun V HV => ?_⟩, hide fun V HV => ?_⟩
  · refine (rList_any b' s vL vF L F V (h2.below HV.out).rf).mono ?_
    rintro r V' ⟨vt, T, rfl, hT, _, hTc, hb3, _⟩
    obtain ⟨ta, tc, rfl⟩ := hT.form
    have hb4 := HV.out.trans (hb3.mono HV.out.size)
    refine ⟨ta, _, tc, rfl, hide hb4, hide ?_⟩
    refine (sameAll_any _ _ R T V' ((hR2.acts).below hb4) hT).mono ?_
    rintro r V3 ⟨rfl, hb5⟩
    exact ⟨by rw [hRc, hTc, h.rel.open s]; simp, hide (hb4.trans (hb5.mono hb4.size))⟩
  · refine (rAll_any b' s vL vF L F V (h2.below HV.out).rf).mono ?_
    rintro r V' ⟨vt, T, rfl, hT, hTc, hb3⟩
    obtain ⟨ta, tc, rfl⟩ := hT.form
    have hb4 := HV.out.trans (hb3.mono HV.out.size)
    refine ⟨ta, _, tc, rfl, hide hb4, hide ?_⟩
    refine (sameAll_any _ _ Q T V' ((hQ.acts).below hb4) hT).mono ?_
    rintro r V3 ⟨rfl, hb5⟩
    exact ⟨by rw [hQc, hTc, h.rel.all s]; simp, hide (hb4.trans (hb5.mono hb4.size))⟩
  · refine (has_any _ b s v le x V (h2.below HV.out).ag (hx2.below HV.out)).mono ?_
    rintro r V' ⟨rfl, hb3⟩
    exact ⟨rfl, hide (HV.out.trans (hb3.mono HV.out.size))⟩
  · refine (rHas_any b' s vL vF L F x V (h2.below HV.out).rf (hx2.below HV.out)).mono ?_
    rintro r V' ⟨rfl, hb3⟩
    exact ⟨by rw [hhas], hide (HV.out.trans (hb3.mono HV.out.size))⟩
  · refine (fired_any _ b s v le x V (h2.below HV.out).ag (hx2.below HV.out)).mono ?_
    rintro r V' ⟨rfl, hb3⟩
    exact ⟨rfl, hide (HV.out.trans (hb3.mono HV.out.size))⟩
  · refine (rFired_any b' s vL vF L F x V (h2.below HV.out).rf (hx2.below HV.out)).mono ?_
    rintro r V' ⟨rfl, hb3⟩
    exact ⟨by rw [hfired], hide (HV.out.trans (hb3.mono HV.out.size))⟩
  · have hRV := hR2.keep (Only.of_below HV.out []) (by simp)
    have hQV := hQ.keep (Only.of_below HV.out []) (by simp)
    have hcapR : R.length ≤ rc := hR.cap
    have hcapQ : Q.length ≤ qc := hQ.cap
    refine (spoil_any w.heap.size ra rc R V hRV.spoils (by omega) hcapR (fun i hi => (hRV.acts.tups _ (List.getElem_mem hi)).1)).mono ?_
    rintro r V3 ⟨rfl, _, hO3⟩
    refine ⟨rfl, hide ?_⟩
    have hQ3 : ResIs V1.heap.size V3 (.slice qa Q.length qc) Q := hQV.keep hO3 (fun i hi => by
      obtain ⟨a, ha, e⟩ := tupBlocks_mem.1 hi
      exact ((hR.tups a ha).lt _ e).2)
    have hbV : Below w.heap.size w V := hbw2.trans (HV.out.mono hbw2.size)
    have hb3 : Below w.heap.size w V3 := below_only hbV hO3 (fun i hi => by
      obtain ⟨a, ha, e⟩ := tupBlocks_mem.1 hi
      exact ((hR.tups a ha).lt _ e).1) hbV.size
    refine (spoil_any V1.heap.size qa qc Q V3 hQ3.spoils (by omega) hcapQ (fun i hi => (hQ3.acts.tups _ (List.getElem_mem hi)).1)).mono ?_
    rintro r V4 ⟨rfl, _, hO4⟩
    have hb4 : Below w.heap.size w V4 := below_only hb3 hO4 (fun i hi => by
      obtain ⟨a, ha, e⟩ := tupBlocks_mem.1 hi
      have := ((hQ.tups a ha).lt _ e).1
      omega) hb3.size
    exact ⟨rfl, hide ⟨v, vL, vF, le, L, F, h.below hb4⟩⟩
end Go.Proofs.Ytelgajgghgknnaa
