/- TruthPlays: both books, a call's boxes, what keeps them; each call on both books. -/
import Derived.Test.YtmcajoccfbebiaaRT7
import Derived.Test.YtmcajoccfbebiaaRTE
import Derived.Test.YtmcajoccfbebiaaTrHeldW
import Derived.Test.YtmcajoccfbebiaaTrCopy
namespace Go.Proofs.Ytmcajoccfbebiaa
open Go Go.RowKit Go.MapKept Go.Sort

theorem only_av {w V : World} {S : List Nat} {B n s : Nat} {t : TypeId} {u : Value} {xs : List Value} (h : w.ownsRow B t s u n xs) (ho : Only S w V) (hu : AvV (· ∉ S) u) : V.ownsRow B t s u n xs := owns_only h ho fun k hk => by
  rcases h.2 with ⟨rfl, _⟩ | ⟨g, cap, cur, rfl, _⟩
  · cases hk
  · simp only [Value.ownBlock, Option.some.injEq] at hk
    subst hk
    exact hu ⟨_, 0, none⟩ _ _ rfl
/-- Both books. -/
structure Two (W0 X : World) (b m : Nat) (M : List Sp) (r : Nat) (v : Value) (L : List Sp) : Prop where
  bk : BookIs X b m M
  rf : RefB W0.heap.size X r v L
  hb : W0.heap.size ≤ b
  hm : W0.heap.size ≤ m
  below : Below W0.heap.size W0 X
  av : AvB (· < X.heap.size) M
theorem AvB.all {M : List Sp} {A : Nat → Prop} (h : AvB A M) {B : Nat → Prop} (e : ∀ k, A k → B k) : AvB B M := h.mono e
theorem Two.br {W0 X : World} {b m r : Nat} {M L : List Sp} {v : Value} (h : Two W0 X b m M r v L) : b ≠ r := by
  rintro rfl
  have h1 := h.bk.blk
  rw [h.rf.blk] at h1
  have : (70 : TypeId) = 88 := by injection h1 with h1; injection h1
  exact absurd this (by decide)
theorem Two.mr {W0 X : World} {b m r : Nat} {M L : List Sp} {v : Value} (h : Two W0 X b m M r v L) : m ≠ r := by
  rintro rfl
  obtain ⟨es, c, h1, _⟩ := h.bk.map
  rw [h.rf.blk] at h1
  cases h1
theorem Two.to {W0 X X' : World} {b m r : Nat} {M L : List Sp} {v : Value} (h : Two W0 X b m M r v L) (hb : Below X.heap.size X X') : Two W0 X' b m M r v L :=
  ⟨h.bk.below hb, h.rf.below hb, h.hb, h.hm, h.below.trans (hb.mono h.below.size), h.av.mono fun _ hk => Nat.lt_of_lt_of_le hk hb.size⟩
theorem Two.truth {W0 X X' : World} {b m r : Nat} {M M' L : List Sp} {v : Value} (h : Two W0 X b m M r v L) (hB : BookIs X' b m M') (ho : Only [m] X X') (ha : AvB (· < X.heap.size) M → AvB (· < X'.heap.size) M') : Two W0 X' b m M' r v L :=
  ⟨hB, h.rf.map h.bk.map ho, h.hb, h.hm, below_only h.below ho (fun i hi => by simp only [List.mem_singleton] at hi; have := h.hm; omega) h.below.size, ha h.av⟩
theorem Two.ref {W0 X X' : World} {b m r : Nat} {M L L' : List Sp} {v v' : Value} (h : Two W0 X b m M r v L) (hR : RefB W0.heap.size X' r v' L') (ho : ROnly W0.heap.size r X X') : Two W0 X' b m M r v' L' :=
  ⟨h.bk.ronly ho h.br h.mr, hR, h.hb, h.hm, h.below.trans (ho.low h.rf.hB h.below.size), h.av.mono fun _ hk => Nat.lt_of_lt_of_le hk ho.size⟩
/-- Another book's map turns. -/
theorem Two.other {W0 X X' : World} {b m r mc : Nat} {M L : List Sp} {v : Value} {l : List (Int × Value)} (h : Two W0 X b m M r v L) (hc : IMap X mc l) (hne : m ≠ mc) (h0 : W0.heap.size ≤ mc) (ho : Only [mc] X X') : Two W0 X' b m M r v L :=
  ⟨h.bk.other hc hne ho, h.rf.map hc ho, h.hb, h.hm, below_only h.below ho (fun i hi => by simp only [List.mem_singleton] at hi; omega) h.below.size, h.av.mono fun _ hk => Nat.lt_of_lt_of_le hk ho.size⟩
/-- Rows of one's own that are no part of the books are written over. -/
theorem Two.apart {W0 X X' : World} {b m r : Nat} {M L : List Sp} {v : Value} {S : List Nat} (h : Two W0 X b m M r v L) (ho : Only S X X') (hS : ∀ i ∈ S, W0.heap.size ≤ i) (ha : AvB (· ∉ S) M) (hv : AvV (· ∉ S) v) (hl : AvB (· ∉ S) L) (h1 : b ∉ S) (h2 : m ∉ S) (h3 : r ∉ S) : Two W0 X' b m M r v L :=
  ⟨h.bk.apart ho ha h1 h2, h.rf.apart ho hv hl h3, h.hb, h.hm, below_only h.below ho hS h.below.size, h.av.mono fun _ hk => Nat.lt_of_lt_of_le hk ho.size⟩

/-- A call's boxes: what was handed in, in box q; the law's own copy of the justification, in box p. -/
structure Bx (X : World) (q p : Nat) (d : OpD) (ga : Option Addr) (gc N : Nat) : Prop where
  box : X.heap[q]? = some (.cells #[.int .i64 d.k, .int .i64 d.id, .int .i64 d.j.r, .slice d.j.a d.j.n d.j.c] 55 (0, 0))
  jb : X.heap[p]? = some (.cells #[.int .i64 d.j.r, .slice ga d.j.t.length gc] 53 (0, 0))
  row : X.ownsRow N 3 1 (.slice ga d.j.t.length gc) d.j.t.length (d.j.t.map (.int .i64))
  arg : NIs X (.slice d.j.a d.j.n d.j.c) d.j.t
theorem Bx.to {X X' : World} {q p : Nat} {d : OpD} {ga : Option Addr} {gc N : Nat} (h : Bx X q p d ga gc N) (hb : Below X.heap.size X X') : Bx X' q p d ga gc N :=
  ⟨(hb.block q (lt_of_heap h.box)).trans h.box, (hb.block p (lt_of_heap h.jb)).trans h.jb, owns_below h.row hb, h.arg.below hb⟩
theorem Bx.map {X X' : World} {q p m : Nat} {d : OpD} {ga : Option Addr} {gc N : Nat} {l : List (Int × Value)} (h : Bx X q p d ga gc N) (hm : IMap X m l) (ho : Only [m] X X') : Bx X' q p d ga gc N := by
  have hk := KeepsCells.map hm ho
  obtain ⟨es, c, h1, _⟩ := hm
  have hne : ∀ {k : Nat} {cs : Array Value} {t : TypeId} {fr : Nat × Nat}, X.heap[k]? = some (.cells cs t fr) → k ∉ [m] := fun e hm => by
    simp only [List.mem_singleton] at hm
    subst hm
    rw [h1] at e
    cases e
  refine ⟨(ho.block q (lt_of_heap h.box) (hne h.box)).trans h.box, (ho.block p (lt_of_heap h.jb) (hne h.jb)).trans h.jb, owns_only h.row ho fun k hk2 => ?_, h.arg.keeps hk⟩
  rcases h.row.2 with ⟨e, _⟩ | ⟨g, cap, cur, e, _, hg, _⟩
  · rw [e] at hk2
    cases hk2
  · rw [e] at hk2
    simp only [Value.ownBlock, Option.some.injEq] at hk2
    subst hk2
    exact hne hg
theorem Bx.ref {X X' : World} {q p B r : Nat} {d : OpD} {ga : Option Addr} {gc N : Nat} {v : Value} (h : Bx X q p d ga gc N) (hr : X.heap[r]? = some (.cells #[v] 70 (0, 0))) (ho : ROnly B r X X') : Bx X' q p d ga gc N := by
  have hne : ∀ {k : Nat} {cs : Array Value} {t : TypeId} {fr : Nat × Nat}, t ≠ 111 → t ≠ 70 → X.heap[k]? = some (.cells cs t fr) → X'.heap[k]? = X.heap[k]? := fun h1 h2 e => by
    refine ho.block _ (lt_of_heap e) (fun q => ?_) (.inr fun cs fr q => ?_)
    · subst q
      rw [hr] at e
      injection e with e
      injection e with _ e
      exact h2 e.symm
    · rw [e] at q
      injection q with q
      injection q with _ q
      exact h1 q
  refine ⟨(hne (by decide) (by decide) h.box).trans h.box, (hne (by decide) (by decide) h.jb).trans h.jb, ?_, h.arg.ronly ho⟩
  refine ⟨h.row.1, ?_⟩
  rcases h.row.2 with e | ⟨g, cap, cur, e, h1, hg, r⟩
  · exact .inl e
  · exact .inr ⟨g, cap, cur, e, h1, (hne (by decide) (by decide) hg).trans hg, r⟩
theorem Bx.cells {X : World} {q p : Nat} {d : OpD} {ga : Option Addr} {gc N : Nat} (h : Bx X q p d ga gc N) : X.cell? ⟨q, 0, none⟩ = some (.int .i64 d.k) ∧ X.cell? ⟨q, 1, none⟩ = some (.int .i64 d.id) ∧ X.cell? ⟨q, 2, none⟩ = some (.int .i64 d.j.r) ∧ X.cell? ⟨q, 3, none⟩ = some (.slice d.j.a d.j.n d.j.c) ∧
    X.cell? ⟨p, 0, none⟩ = some (.int .i64 d.j.r) ∧ X.cell? ⟨p, 1, none⟩ = some (.slice ga d.j.t.length gc) := by
  simp [World.cell?, h.box, h.jb]
/-- The blocks of the copy's tuple. -/
def tblk (ga : Option Addr) (n gc : Nat) : List Nat := (Value.ownBlock (.slice ga n gc)).toList
/-- Both books and the boxes; the copy's tuple is no part of the books. -/
structure SS (W0 X : World) (b m : Nat) (M : List Sp) (r : Nat) (v : Value) (L : List Sp) (q p : Nat) (d : OpD) (ga : Option Addr) (gc N : Nat) : Prop where
  two : Two W0 X b m M r v L
  bx : Bx X q p d ga gc N
  avM : AvB (· ∉ tblk ga d.j.t.length gc) M
  avV : AvV (· ∉ tblk ga d.j.t.length gc) v
  avL : AvB (· ∉ tblk ga d.j.t.length gc) L
theorem SS.lt {W0 X : World} {b m r q p gc N : Nat} {M L : List Sp} {v : Value} {d : OpD} {ga : Option Addr} (h : SS W0 X b m M r v L q p d ga gc N) {k : Nat} (hk : k ∈ tblk ga d.j.t.length gc) : N ≤ k ∧ k < X.heap.size := by
  unfold tblk at hk
  rw [Option.mem_toList] at hk
  exact h.bx.row.lt k hk
theorem SS.to {W0 X X' : World} {b m r q p gc N : Nat} {M L : List Sp} {v : Value} {d : OpD} {ga : Option Addr} (h : SS W0 X b m M r v L q p d ga gc N) (hb : Below X.heap.size X X') : SS W0 X' b m M r v L q p d ga gc N :=
  ⟨h.two.to hb, h.bx.to hb, h.avM, h.avV, h.avL⟩
theorem SS.truth {W0 X X' : World} {b m r q p gc N : Nat} {M M' L : List Sp} {v : Value} {d : OpD} {ga : Option Addr} (h : SS W0 X b m M r v L q p d ga gc N) (hB : BookIs X' b m M') (ho : Only [m] X X') (ha : ∀ A : Nat → Prop, (∀ k, X.heap.size ≤ k → k < X'.heap.size → A k) → AvB A M → AvB A M') : SS W0 X' b m M' r v L q p d ga gc N :=
  ⟨h.two.truth hB ho fun hM => ha _ (fun _ _ hk => hk) (hM.mono fun _ hk => Nat.lt_of_lt_of_le hk ho.size), h.bx.map h.two.bk.map ho, ha _ (fun k hk _ hm => by have := (h.lt hm).2; omega) h.avM, h.avV, h.avL⟩
theorem SS.ref {W0 X X' : World} {b m r q p gc N : Nat} {M L L' : List Sp} {v v' : Value} {d : OpD} {ga : Option Addr} (h : SS W0 X b m M r v L q p d ga gc N) (hR : RefB W0.heap.size X' r v' L') (ho : ROnly W0.heap.size r X X') (ha : ∀ A : Nat → Prop, (∀ k, X.heap.size ≤ k → A k) → AvV A v → AvB A L → AvV A v' ∧ AvB A L') : SS W0 X' b m M r v' L' q p d ga gc N :=
  have k := ha (· ∉ tblk ga d.j.t.length gc) (fun k hk hm => by have := (h.lt hm).2; omega) h.avV h.avL
  ⟨h.two.ref hR ho, h.bx.ref h.two.rf.blk ho, h.avM, k.1, k.2⟩
theorem SS.other {W0 X X' : World} {b m r q p gc N mc : Nat} {M L : List Sp} {v : Value} {d : OpD} {ga : Option Addr} {l : List (Int × Value)} (h : SS W0 X b m M r v L q p d ga gc N) (hc : IMap X mc l) (hne : m ≠ mc) (h0 : W0.heap.size ≤ mc) (ho : Only [mc] X X') : SS W0 X' b m M r v L q p d ga gc N :=
  ⟨h.two.other hc hne h0 ho, h.bx.map hc ho, h.avM, h.avV, h.avL⟩
/-- A copy of truth's book is gone on with. -/
theorem SS.copyT {W0 X X' : World} {b m r q p gc N b' m' : Nat} {M L : List Sp} {v : Value} {d : OpD} {ga : Option Addr} (h : SS W0 X b m M r v L q p d ga gc N) (hb : Below X.heap.size X X') (hB : BookIs X' b' m' M) (h1 : X.heap.size ≤ b') (h2 : X.heap.size ≤ m') : SS W0 X' b' m' M r v L q p d ga gc N :=
  have k := h.to hb
  have hs := h.two.below.size
  ⟨⟨hB, k.two.rf, by omega, by omega, k.two.below, k.two.av⟩, k.bx, h.avM, h.avV, h.avL⟩
/-- A copy of the document's. -/
theorem SS.copyR {W0 X X' : World} {b m r q p gc N r' : Nat} {M L : List Sp} {v v' : Value} {d : OpD} {ga : Option Addr} (h : SS W0 X b m M r v L q p d ga gc N) (hb : Below X.heap.size X X') (hR : RefB W0.heap.size X' r' v' L) (hv : AvV (X.heap.size ≤ ·) v') : SS W0 X' b m M r' v' L q p d ga gc N :=
  have k := h.to hb
  ⟨⟨k.two.bk, hR, k.two.hb, k.two.hm, k.two.below, k.two.av⟩, k.bx, h.avM, fun a n c e hm => by have := (h.lt hm).2; have := hv a n c e; omega, h.avL⟩


/-- What a call makes of truth's facts, and of the document's. -/
def TJust (M M' : List Sp) (id : Int) (J : Jc) : Prop := ∃ q, M' = putS M q ∧ q.id = id ∧ q.plain = (getD M id).plain ∧ q.js.map Jc.co = justR (getD M id).js J
def RJust (L L' : List Sp) (id : Int) (J : Jc) : Prop := ∃ q, RPut L L' q ∧ q.id = id ∧ q.plain = (getD L id).plain ∧ (q.js.map Jc.co).Perm (justR (getD L id).js J) ∧ ((getD L id).js.Pairwise (fun a b => cmpJ a b ≤ 0) → q.js.Pairwise (fun a b => cmpJ a b ≤ 0))
theorem justR_perm {js js' : List Jc} {J K : Jc} (h : (js.map Jc.co).Perm (js'.map Jc.co)) (e : J.co = K.co) : (justR js J).Perm (justR js' K) := by
  have ha : (js.any fun x => x.same J) = js'.any fun x => x.same K := by rw [Bool.eq_iff_iff, any_same, any_same, e, h.mem_iff]
  cases hq : js'.any fun x => x.same K with
  | true =>
    rw [justR_yes (ha.trans hq), justR_yes hq]
    exact h
  | false =>
    rw [justR_no (ha.trans hq), justR_no hq, e]
    exact h.append_right _
theorem justR_len (js : List Jc) (J : Jc) : (justR js J).length ≤ js.length + 1 := by
  unfold justR
  split <;> simp
/-- Both say the same; there are at most so many. -/
structure PB (M L : List Sp) (n : Nat) : Prop where
  rel : PRel M L
  len : L.length ≤ n
  jl : ∀ x, (getD L x).js.length ≤ n
theorem PB.mono {M L : List Sp} {n m : Nat} (h : PB M L n) (e : n ≤ m) : PB M L m := ⟨h.rel, Nat.le_trans h.len e, fun x => Nat.le_trans (h.jl x) e⟩
theorem PB.mlen {M L : List Sp} {n : Nat} (h : PB M L n) : M.length ≤ n := by rw [h.rel.len]; exact h.len
theorem PB.mjl {M L : List Sp} {n : Nat} (h : PB M L n) (x : Int) : (getD M x).js.length ≤ n := by rw [h.rel.jlen]; exact h.jl x
theorem PB.put {M L L' : List Sp} {n : Nat} {q q' : Sp} (h : PB M L n) (hp : RPut L L' q') (e : q.id = q'.id) (h1 : q.plain = q'.plain) (h2 : (q.js.map Jc.co).Perm (q'.js.map Jc.co)) (h3 : q'.js.Pairwise (fun a b => cmpJ a b ≤ 0)) (h4 : q'.js.length ≤ n + 1) : PB (putS M q) L' (n + 1) := by
  refine ⟨h.rel.put hp e h1 h2 h3, by have := hp.len; have := h.len; omega, fun x => ?_⟩
  rw [hp.get h.rel.asc]
  split
  · exact h4
  · have := h.jl x
    omega
theorem PB.plain {M L L' : List Sp} {n : Nat} {id : Int} (h : PB M L n) (hp : RPut L L' ⟨id, true, (getD L id).js, (getD L id).v⟩) : PB (putS M ⟨id, true, (getD M id).js, (getD M id).v⟩) L' (n + 1) :=
  h.put hp rfl rfl (h.rel.js id) (h.rel.sorted id) (by have := h.jl id; simp only; omega)
theorem PB.just {M M' L L' : List Sp} {n : Nat} {id : Int} {J K : Jc} (h : PB M L n) (h1 : TJust M M' id J) (h2 : RJust L L' id K) (e : J.co = K.co) : PB M' L' (n + 1) := by
  obtain ⟨q, rfl, a1, a2, a3⟩ := h1
  obtain ⟨q', b0, b1, b2, b3, b4⟩ := h2
  refine h.put b0 (a1.trans b1.symm) (by rw [a2, b2, h.rel.plain]) ?_ (b4 (h.rel.sorted id)) ?_
  · rw [a3]
    exact (justR_perm (h.rel.js id) e).trans b3.symm
  · have h5 := b3.length_eq
    rw [List.length_map] at h5
    have h6 := justR_len (getD L id).js K
    have := h.jl id
    omega
theorem PB.wd {M M' L L' : List Sp} {n : Nat} {J K : Jc} (h : PB M L n) (h1 : Wdp M M' J (fun _ => true)) (h2 : RWd L L' K) (e : J.co = K.co) : PB M' L' n := by
  refine ⟨h.rel.wd h1 h2 e, ?_, fun x => ?_⟩
  · have := congrArg List.length h2.ids
    rw [List.length_map, List.length_map] at this
    have := h.len
    omega
  · rw [h2.js]
    exact Nat.le_trans (List.length_filter_le _ _) (h.jl x)
theorem PB.drop {M L L' : List Sp} {n : Nat} {id : Int} (h : PB M L n) (hd : RDrop L L' id) : PB (dropS M id) L' n := by
  refine ⟨h.rel.drop hd, Nat.le_trans hd.len h.len, fun x => ?_⟩
  rw [hd.get h.rel.asc]
  split
  · simp
  · exact h.jl x
theorem PB.had {M L : List Sp} {n : Nat} {J K : Jc} (h : PB M L n) (e : J.co = K.co) : (idsS M).filter (fun x => (getD M x).js.any fun y => y.same J) = hadR L K := by
  rw [h.rel.idsS]
  unfold hadR
  rw [List.filter_map]
  congr 1
  refine List.filter_congr fun p hp => ?_
  simp only [Function.comp]
  rw [h.rel.any p.id J K e, getD_mem_eq h.rel.asc hp]
theorem PB.there {M L : List Sp} {n : Nat} {id : Int} (h : PB M L n) : (getS M id).isSome = L.any fun p => p.id == id := by
  have h1 := h.rel.ids id
  rw [Bool.eq_iff_iff, List.any_eq_true]
  unfold getS
  rw [List.find?_isSome]
  simp only [List.mem_map] at h1
  simp only [beq_iff_eq]
  exact h1

/-- Both books, that say the same. -/
structure PSt (W0 X : World) (b m : Nat) (M : List Sp) (r : Nat) (v : Value) (L : List Sp) (n : Nat) : Prop where
  two : Two W0 X b m M r v L
  pb : PB M L n
theorem PSt.to {W0 X X' : World} {b m r n : Nat} {M L : List Sp} {v : Value} (h : PSt W0 X b m M r v L n) (hb : Below X.heap.size X X') : PSt W0 X' b m M r v L n := ⟨h.two.to hb, h.pb⟩

section
variable {W0 X : World} {b m r q p gc N : Nat} {M L : List Sp} {v : Value} {d : OpD} {ga : Option Addr}
theorem ss_plain (h : SS W0 X b m M r v L q p d ga gc N) (hl : M.length < 100000) (id : Int) (hwf : (Lit.int .i64 id).wf = true) :
    Calls Try.prog 27 #[.pointer (some ⟨b, 0, none⟩), .int .i64 id] X fun e X' => e = .returned (.tuple #[]) ∧ SS W0 X' b m (putS M ⟨id, true, (getD M id).js, (getD M id).v⟩) r v L q p d ga gc N ∧ Only [m] X X' :=
  (plain_any b m M id X h.two.bk hwf hl).mono fun _ _ ⟨h1, h2, h3⟩ => ⟨h1, h.truth h2 h3 fun _ _ hM => hM.put (hM.getD id), h3⟩
theorem ss_rplain (h : SS W0 X b m M r v L q p d ga gc N) (hl : L.length < 900) (id : Int) :
    Calls Try.prog 70 #[.pointer (some ⟨r, 0, none⟩), .int .i64 id] X fun e X' => e = .returned (.tuple #[]) ∧ ∃ v' L', SS W0 X' b m M r v' L' q p d ga gc N ∧ RPut L L' ⟨id, true, (getD L id).js, (getD L id).v⟩ := by
  refine (rplain_any W0.heap.size r v L id X h.two.rf hl).mono fun _ _ ⟨h1, ⟨v', L1, k, hk, hid, hor, hR, hav⟩, h3⟩ => ?_
  have hasc : (L1.map Sp.id).Pairwise (· < ·) := by
    have h9 := hR.asc
    rw [List.map_set] at h9
    have e : (L1.map Sp.id).set k L1[k].id = L1.map Sp.id := by
      refine List.ext_getElem (by simp) fun i h1 h2 => ?_
      rw [List.getElem_set]
      split
      · rename_i q
        subst q
        simp
      · rfl
    rwa [e] at h9
  obtain ⟨hp, hg⟩ := RPut.row h.two.rf.asc hasc hk hid hor (q := ⟨L1[k].id, true, L1[k].js, L1[k].v⟩) hid
  have e0 : (⟨L1[k].id, true, L1[k].js, L1[k].v⟩ : Sp) = ⟨id, true, (getD L id).js, (getD L id).v⟩ := by rw [hid, hg]
  refine ⟨h1, v', _, h.ref hR h3 (fun A hA a1 a2 => ⟨hav A hA a1, ?_⟩), by rw [e0] at hp ⊢; exact hp⟩
  have hL1 : AvB A L1 := by
    rcases hor with rfl | ⟨rfl, _⟩
    · exact a2
    · intro p hp
      unfold insR at hp
      simp only [List.mem_append, List.mem_singleton] at hp
      rcases hp with (hp | rfl) | hp
      · exact a2 p (List.mem_of_mem_take hp)
      · exact AvS.nil A _ false
      · exact a2 p (List.mem_of_mem_drop hp)
  intro x hx
  rcases List.mem_or_eq_of_mem_set hx with hx | rfl
  · exact hL1 x hx
  · have := hL1 _ (List.getElem_mem hk)
    exact ⟨this.1, this.2⟩
/-- The law's own copy of the justification, and what was handed in. -/
def OpD.own (d : OpD) (ga : Option Addr) (gc : Nat) : Jc := ⟨d.j.r, d.j.t, .slice ga d.j.t.length gc⟩
theorem ss_own (h : SS W0 X b m M r v L q p d ga gc N) (h20 : d.j.t.length ≤ 20) : NIs X (d.own ga gc).x (d.own ga gc).tup := NIs.of_row (by show d.j.t.length ≤ _; omega) h.bx.row
theorem ss_just (h : SS W0 X b m M r v L q p d ga gc N) (hm : M.length < 900) (h20 : d.j.t.length ≤ 20) (id : Int) (hj : (getD M id).js.length < 900) (hwf : (Lit.int .i64 id).wf = true) :
    Calls Try.prog 28 #[.pointer (some ⟨b, 0, none⟩), .int .i64 id, (d.own ga gc).val] X fun e X' => e = .returned (.bool (!((getD M id).js.any fun x => x.same (d.own ga gc)))) ∧ ∃ M', SS W0 X' b m M' r v L q p d ga gc N ∧ TJust M M' id (d.own ga gc) := by
  refine (justify2_any b m M id (d.own ga gc) X h.two.bk (ss_own h h20) hwf (by omega) (by omega)).mono fun _ _ ⟨h1, ⟨q, a1, a2, a3, a4, a5⟩, h3⟩ => ⟨h1, _, h.truth a4 h3 a5, q, rfl, a1, a2, a3⟩
theorem ss_rjust (h : SS W0 X b m M r v L q p d ga gc N) (hl : L.length < 900) (id : Int) (hj : (getD L id).js.length < 900) :
    Calls Try.prog 71 #[.pointer (some ⟨r, 0, none⟩), .int .i64 id, d.j.jc.val] X fun e X' => e = .returned (.bool (!((getD L id).js.any fun x => x.same d.j.jc))) ∧ ∃ v' L', SS W0 X' b m M r v' L' q p d ga gc N ∧ RJust L L' id d.j.jc := by
  refine (rjustify_any W0.heap.size r v L id d.j.jc X h.two.rf h.bx.arg (by omega) (by omega)).mono fun _ _ ⟨h1, ⟨v', L', q, a1, a2, a3, a4, a5, a6, a7⟩, h3⟩ => ⟨h1, v', L', h.ref a1 h3 a7, q, a2, a3, a4, a5, a6⟩
theorem ss_with (h : SS W0 X b m M r v L q p d ga gc N) (hm : M.length < 900) (hnd : (M.map Sp.id).Nodup) (hj : ∀ x, (getD M x).js.length < 900) (h20 : d.j.t.length ≤ 20) :
    Calls Try.prog 42 #[.pointer (some ⟨b, 0, none⟩), (d.own ga gc).val] X fun e X' => ∃ vo l, e = .returned vo ∧ NIs X' vo l ∧ l = (idsS M).filter (fun x => (getD M x).js.any fun y => y.same (d.own ga gc)) ∧ KeepsCells X X' ∧ ∃ M', SS W0 X' b m M' r v L q p d ga gc N ∧ Wdp M M' (d.own ga gc) (fun _ => true) := by
  refine (withdraw2_any b m M (d.own ga gc) X h.two.bk (ss_own h h20) (by omega) hnd (fun x => by have := hj x; omega)).mono fun _ _ ⟨vo, h1, h2, ⟨M', a1, a2, a3⟩, h3⟩ => ⟨vo, _, h1, NIs.of_row ?_ h2, rfl, KeepsCells.map h.two.bk.map h3, M', h.truth a1 h3 a3, a2⟩
  refine Nat.le_trans (List.length_filter_le _ _) ?_
  have := (rise_perm (M.map Sp.id)).length_eq
  unfold idsS
  rw [this, List.length_map]
  omega
theorem ss_rwith (h : SS W0 X b m M r v L q p d ga gc N) (hl : L.length < 900) :
    Calls Try.prog 72 #[.pointer (some ⟨r, 0, none⟩), d.j.jc.val] X fun e X' => ∃ vo l, e = .returned vo ∧ NIs X' vo l ∧ l = hadR L d.j.jc ∧ ROnly W0.heap.size r X X' ∧ ∃ L', SS W0 X' b m M r v L' q p d ga gc N ∧ RWd L L' d.j.jc := by
  refine (rwithdraw_any W0.heap.size r v L d.j.jc X h.two.rf h.bx.arg).mono fun _ _ ⟨vo, h1, h2, ⟨L', a1, a2, a3⟩, h3⟩ => ⟨vo, _, h1, NIs.of_row ?_ h2, rfl, h3, L', h.ref a1 h3 (fun A hA b1 b2 => ⟨b1, a3 A hA b2⟩), a2⟩
  unfold hadR
  rw [List.length_map]
  exact Nat.le_trans (List.length_filter_le _ _) (by omega)
theorem ss_drop (h : SS W0 X b m M r v L q p d ga gc N) (id : Int) :
    Calls Try.prog 33 #[.pointer (some ⟨b, 0, none⟩), .int .i64 id] X fun e X' => e = .returned (.bool (getS M id).isSome) ∧ SS W0 X' b m (dropS M id) r v L q p d ga gc N := by
  refine (drop_any b m M id X h.two.bk).mono fun _ _ hh => ?_
  obtain ⟨h1, h2, h3⟩ := hh
  exact ⟨h1, h.truth h2 h3 fun _ _ hM => hM.drop id⟩
theorem ss_rdrop (h : SS W0 X b m M r v L q p d ga gc N) (id : Int) :
    Calls Try.prog 73 #[.pointer (some ⟨r, 0, none⟩), .int .i64 id] X fun e X' => e = .returned (.bool (L.any fun p => p.id == id)) ∧ ∃ v' L', SS W0 X' b m M r v' L' q p d ga gc N ∧ RDrop L L' id :=
  (rdrop_any W0.heap.size r v L id X h.two.rf).mono fun _ _ ⟨h1, ⟨v', L', a1, a2, a3⟩, h3⟩ => ⟨h1, v', L', h.ref a1 h3 a3, a2⟩
theorem ss_copy (h : SS W0 X b m M r v L q p d ga gc N) :
    Calls Try.prog 43 #[.pointer (some ⟨b, 0, none⟩)] X fun e X' => ∃ b' m', e = .returned (.pointer (some ⟨b', 0, none⟩)) ∧ BookIs X' b' m' M ∧ X.heap.size ≤ b' ∧ X.heap.size ≤ m' ∧ SS W0 X' b m M r v L q p d ga gc N ∧ SS W0 X' b' m' M r v L q p d ga gc N :=
  (copy_any b m M X h.two.bk).mono fun _ _ ⟨b', m', h1, h2, h3, h4, h5⟩ => ⟨b', m', h1, h2, h4, h5, h.to h3, h.copyT h3 h2 h4 h5⟩
theorem ss_rcopy (h : SS W0 X b m M r v L q p d ga gc N) :
    Calls Try.prog 74 #[.pointer (some ⟨r, 0, none⟩)] X fun e X' => ∃ r' v', e = .returned (.pointer (some ⟨r', 0, none⟩)) ∧ SS W0 X' b m M r' v' L q p d ga gc N :=
  (rcopy_any W0.heap.size r v L X h.two.rf).mono fun _ _ ⟨r', v', h1, h2, h3, h4⟩ => ⟨r', v', h1, h.copyR h4 h2 h3⟩
end
end Go.Proofs.Ytmcajoccfbebiaa
