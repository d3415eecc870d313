/- expr: the reader's state; is, open, must, place. -/
import Derived.Test.YtkjndabbkfbkaaaGreatDoorExL
import Derived.Deep.AppendLies
import Derived.Laws.Externs
namespace Go.Proofs.YtkjndabbkfbkaaaGreatDoor
open Go Go.RowKit

/-- The cells of nodes, given their expressions' slices. -/
def nflat : List Value → List Nd → List Value
  | kv :: kvs, n :: ns => .int .u8 n.h.op :: .int .u8 n.h.v.1 :: .int .i64 n.h.v.2.1 :: .string ⟨n.h.v.2.2.toArray⟩ :: .string ⟨n.h.name.toArray⟩ :: kv :: .int .i64 n.h.line :: .int .i64 n.h.col :: nflat kvs ns
  | _, _ => []
/-- Numbers of nodes, as they lie. -/
def nums (l : List Nat) : List Value := l.map fun (k : Nat) => Value.int .i64 (k : Int)
/-- The expressions' slices: rows of one's own, in none of some blocks. -/
def KidsAre (w : World) (B : Nat) (X : List Nat) : List Value → List Nd → Prop
  | [], [] => True
  | v :: vs, n :: ns => (w.ownsRow B 3 1 v n.kids.length (nums n.kids) ∧ ∀ g, v.ownBlock = some g → g ∉ X) ∧ KidsAre w B X vs ns
  | _, _ => False
theorem KidsAre.snoc {w : World} {B : Nat} {X : List Nat} {v : Value} {n : Nd} : ∀ {vs : List Value} {ns : List Nd}, KidsAre w B X vs ns → (w.ownsRow B 3 1 v n.kids.length (nums n.kids) ∧ ∀ g, v.ownBlock = some g → g ∉ X) → KidsAre w B X (vs ++ [v]) (ns ++ [n])
  | [], [], _, h => ⟨h, trivial⟩
  | _ :: _, _ :: _, h, k => ⟨h.1, KidsAre.snoc h.2 k⟩
  | [], _ :: _, h, _ => h.elim
  | _ :: _, [], h, _ => h.elim
theorem KidsAre.imp {w w' : World} {B : Nat} {X : List Nat} {Y : List Nat} (hk : ∀ v n xs, (∀ g, v.ownBlock = some g → g ∉ X) → w.ownsRow B 3 1 v n xs → w'.ownsRow B 3 1 v n xs ∧ ∀ g, v.ownBlock = some g → g ∉ Y) : ∀ {vs : List Value} {ns : List Nd}, KidsAre w B X vs ns → KidsAre w' B Y vs ns
  | [], [], _ => trivial
  | _ :: _, _ :: _, h => ⟨hk _ _ _ h.1.2 h.1.1, KidsAre.imp hk h.2⟩
  | [], _ :: _, h => h.elim
  | _ :: _, [], h => h.elim
theorem KidsAre.base {w : World} {B B' : Nat} {X : List Nat} (hB : B' ≤ B) : ∀ {vs : List Value} {ns : List Nd}, KidsAre w B X vs ns → KidsAre w B' X vs ns
  | [], [], _ => trivial
  | _ :: _, _ :: _, h => ⟨⟨owns_base h.1.1 hB, h.1.2⟩, KidsAre.base hB h.2⟩
  | [], _ :: _, h => h.elim
  | _ :: _, [], h => h.elim
theorem KidsAre.len {w : World} {B : Nat} {X : List Nat} : ∀ {vs : List Value} {ns : List Nd}, KidsAre w B X vs ns → vs.length = ns.length
  | [], [], _ => rfl
  | _ :: _, _ :: _, h => by simp [KidsAre.len h.2]
  | [], _ :: _, h => h.elim
  | _ :: _, [], h => h.elim
theorem nflat_snoc {v : Value} {n : Nd} : ∀ {vs : List Value} {ns : List Nd}, vs.length = ns.length → nflat (vs ++ [v]) (ns ++ [n]) = nflat vs ns ++ nflat [v] [n]
  | [], [], _ => rfl
  | _ :: vs, _ :: ns, h => by simp [nflat, nflat_snoc (vs := vs) (ns := ns) (by simpa using h)]
  | [], _ :: _, h => by simp at h
  | _ :: _, [], h => by simp at h
theorem nflat_len : ∀ {vs : List Value} {ns : List Nd}, vs.length = ns.length → (nflat vs ns).length = ns.length * 8
  | [], [], _ => rfl
  | _ :: vs, _ :: ns, h => by simp [nflat, nflat_len (vs := vs) (ns := ns) (by simpa using h)]; omega
  | [], _ :: _, h => by simp at h
  | _ :: _, [], h => by simp at h
/-- The slice v reads as nodes: rows of one's own from B on. -/
def TrIs (w : World) (B : Nat) (X : List Nat) (v : Value) (nds : List Nd) : Prop := ∃ kvs, w.ownsRow B 34 8 v nds.length (nflat kvs nds) ∧ KidsAre w B X kvs nds
/-- The reader: words, where it is, how many levels are open, nodes. -/
structure RdAt (w : World) (B : Nat) (X : List Nat) (b : Nat) (vl : Value) (ts r : List Tkn) (d : Nat) (vt : Value) (nds : List Nd) : Prop where
  suf : Suf r ts
  toks : TkIs w vl ts
  nam : ∀ t ∈ ts, t.w.k = 1 → t.w.t ≠ [40]
  tl : ∀ g, vl.ownBlock = some g → g < B
  hB : B ≤ b
  xl : ∀ x ∈ X, x < w.heap.size
  hd : d ≤ 12
  big : ts.length ≤ 1000000
  few : nds.length + r.length ≤ 1000000
  blk : w.heap[b]? = some (.cells #[vl, .int .i64 ((ts.length - r.length : Nat) : Int), .int .i64 (d : Int), vt] 83 (0, 0))
  tree : TrIs w B X vt nds
/-- Where reading was given up. -/
def RdErr (w : World) (b : Nat) (vl : Value) (p : Nat) : Prop := ∃ dd vv, w.heap[b]? = some (.cells #[vl, .int .i64 (p : Int), dd, vv] 83 (0, 0))
/-- What has turned: the reader, the row of nodes; a new row of nodes is new. -/
structure Rch (b : Nat) (w : World) (vt : Value) (w' : World) (vt' : Value) : Prop where
  only : Only (b :: vt.ownBlock.toList) w w'
  own : ∀ g, vt'.ownBlock = some g → vt.ownBlock = some g ∨ w.heap.size ≤ g
theorem Rch.refl (b : Nat) (w : World) (vt : Value) : Rch b w vt w vt := ⟨Only.refl _ _, fun _ h => .inl h⟩
theorem Rch.trans {b : Nat} {w w1 w2 : World} {vt v1 v2 : Value} (h : Rch b w vt w1 v1) (k : Rch b w1 v1 w2 v2) : Rch b w vt w2 v2 := by
  refine ⟨h.only.step k.only fun i hi => ?_, fun g hg => ?_⟩
  · rcases List.mem_cons.1 hi with rfl | hi
    · exact .inl List.mem_cons_self
    · have e : v1.ownBlock = some i := by simpa using hi
      rcases h.own i e with q | q
      · exact .inl (List.mem_cons_of_mem _ (by simpa using q))
      · exact .inr q
  · rcases k.own g hg with q | q
    · exact h.own g q
    · exact .inr (Nat.le_trans h.only.size q)
theorem Rch.err {b : Nat} {w w1 w2 : World} {vt v1 : Value} (h : Rch b w vt w1 v1) (k : Only (b :: v1.ownBlock.toList) w1 w2) : Only (b :: vt.ownBlock.toList) w w2 :=
  (h.trans (v2 := v1) ⟨k, fun _ q => .inl q⟩).only
theorem Rch.of_below {b : Nat} {w w' : World} (vt : Value) (h : Below w.heap.size w w') : Rch b w vt w' vt := ⟨Only.of_below h _, fun _ q => .inl q⟩
theorem Rch.of_only {b : Nat} {w w' : World} (vt : Value) (h : Only [b] w w') : Rch b w vt w' vt := ⟨h.mono fun i hi => by simp at hi; simp [hi], fun _ q => .inl q⟩
theorem Suf.at_drop {r ts : List Tkn} (h : Suf r ts) : r = ts.drop (ts.length - r.length) := by
  obtain ⟨k, rfl⟩ := h
  rw [List.length_drop]
  by_cases hk : k ≤ ts.length
  · rw [show ts.length - (ts.length - k) = k by omega]
  · rw [List.drop_eq_nil_of_le (by omega), List.drop_eq_nil_of_le (by omega)]
theorem TrIs.imp {w w' : World} {B : Nat} {X : List Nat} {v : Value} {nds : List Nd} (h : TrIs w B X v nds) (ht : ∀ xs, w.ownsRow B 34 8 v nds.length xs → w'.ownsRow B 34 8 v nds.length xs)
    {Y : List Nat} (hk : ∀ v n xs, (∀ g, v.ownBlock = some g → g ∉ X) → w.ownsRow B 3 1 v n xs → w'.ownsRow B 3 1 v n xs ∧ ∀ g, v.ownBlock = some g → g ∉ Y) : TrIs w' B Y v nds := by
  obtain ⟨kvs, h1, h2⟩ := h
  exact ⟨kvs, ht _ h1, h2.imp hk⟩
theorem TrIs.below {w w' : World} {B : Nat} {X : List Nat} {v : Value} {nds : List Nd} (h : TrIs w B X v nds) (hb : Below w.heap.size w w') : TrIs w' B X v nds := h.imp (fun _ q => owns_below q hb) fun _ _ _ n q => ⟨owns_below q hb, n⟩
theorem TrIs.own {w : World} {B : Nat} {X : List Nat} {v : Value} {nds : List Nd} (h : TrIs w B X v nds) : ∀ g, v.ownBlock = some g → B ≤ g := by
  obtain ⟨kvs, h1, _⟩ := h
  exact row_own h1
theorem TrIs.not {w : World} {B k : Nat} {X : List Nat} {t : TypeId} {v : Value} {nds : List Nd} {cs : Array Value} (h : TrIs w B X v nds) (hk : w.heap[k]? = some (.cells cs t (0, 0))) (ht : 34 ≠ t) : v.ownBlock ≠ some k := by
  obtain ⟨kvs, h1, _⟩ := h
  exact owns_not h1 hk ht
theorem RdAt.below {w w' : World} {B b d : Nat} {X : List Nat} {vl vt : Value} {ts r : List Tkn} {nds : List Nd} (h : RdAt w B X b vl ts r d vt nds) (hb : Below w.heap.size w w') : RdAt w' B X b vl ts r d vt nds :=
  ⟨h.suf, h.toks.below hb, h.nam, h.tl, h.hB, fun x hx => Nat.lt_of_lt_of_le (h.xl x hx) hb.size, h.hd, h.big, h.few, (hb.block b (lt_of_heap h.blk)).trans h.blk, h.tree.below hb⟩
/-- The reader itself has turned. -/
theorem RdAt.turn {w w' : World} {B b d d' : Nat} {X : List Nat} {vl vt : Value} {ts r r' : List Tkn} {nds : List Nd} (h : RdAt w B X b vl ts r d vt nds) (ho : Only [b] w w') (hs : Suf r' r) (hd : d' ≤ 12)
    (hb : w'.heap[b]? = some (.cells #[vl, .int .i64 ((ts.length - r'.length : Nat) : Int), .int .i64 (d' : Int), vt] 83 (0, 0))) : RdAt w' B X b vl ts r' d' vt nds := by
  have hl := hs.len
  refine ⟨hs.trans h.suf, h.toks.kept ho.size fun g hg hlt => ho.block g hlt ?_, h.nam, h.tl, h.hB, fun x hx => Nat.lt_of_lt_of_le (h.xl x hx) ho.size, hd, h.big, by have := h.few; omega, hb, h.tree.imp (fun _ q => owns_only q ho fun k e hm => ?_) fun v n xs hn q => ⟨owns_only q ho fun k e hm => ?_, hn⟩⟩
  · have := h.tl g hg
    have := h.hB
    simp
    omega
  · simp at hm
    subst hm
    exact h.tree.not h.blk (by decide) e
  · simp at hm
    subst hm
    exact owns_not q h.blk (by decide) e
theorem cells4 {w : World} {b : Nat} {x y z u : Value} {t : TypeId} (h : w.heap[b]? = some (.cells #[x, y, z, u] t (0, 0))) :
    w.cell? ⟨b, 0, none⟩ = some x ∧ w.cell? ⟨b, 1, none⟩ = some y ∧ w.cell? ⟨b, 2, none⟩ = some z ∧ w.cell? ⟨b, 3, none⟩ = some u ∧ ∀ i, w.frozen? ⟨b, i, none⟩ = false :=
  ⟨by simp only [World.cell?, h]; rfl, by simp only [World.cell?, h]; rfl, by simp only [World.cell?, h]; rfl, by simp only [World.cell?, h]; rfl, fun i => by simp only [World.frozen?, h]; simp⟩
theorem only_setCell (w : World) (b i : Nat) (u : Value) : Only [b] w (w.setCell ⟨b, i, none⟩ u) := (Only.refl [b] w).setCell (.inl (by simp)) u
/-- The next word is taken. -/
theorem RdAt.step {w : World} {B b d : Nat} {X : List Nat} {vl vt : Value} {ts q : List Tkn} {t : Tkn} {nds : List Nd} (h : RdAt w B X b vl ts (t :: q) d vt nds) :
    RdAt (w.setCell ⟨b, 1, none⟩ (.int .i64 (((ts.length - (q.length + 1) : Nat) : Int) + 1))) B X b vl ts q d vt nds := by
  have hl := h.suf.len
  simp only [List.length_cons] at hl
  refine h.turn (only_setCell _ _ _ _) ⟨1, rfl⟩ h.hd ?_
  rw [setCell_heap h.blk]
  have : ((ts.length - (q.length + 1) : Nat) : Int) + 1 = ((ts.length - q.length : Nat) : Int) := by omega
  rw [this]
  rfl
/-- A level is opened, or shut. -/
theorem RdAt.deep {w : World} {B b d d' : Nat} {X : List Nat} {vl vt : Value} {ts r : List Tkn} {nds : List Nd} (h : RdAt w B X b vl ts r d vt nds) (hd : d' ≤ 12) : RdAt (w.setCell ⟨b, 2, none⟩ (.int .i64 (d' : Int))) B X b vl ts r d' vt nds := by
  refine h.turn (only_setCell _ _ _ _) (Suf.refl _) hd ?_
  rw [setCell_heap h.blk]
  rfl
theorem RdAt.head {w : World} {B b d : Nat} {X : List Nat} {vl vt : Value} {ts q : List Tkn} {t : Tkn} {nds : List Nd} (h : RdAt w B X b vl ts (t :: q) d vt nds) : ∃ g c, vl = .slice (some ⟨g, 0, none⟩) ts.length c ∧ g < w.heap.size ∧ ts.length - (t :: q).length < ts.length ∧
    w.cell? ⟨g, (ts.length - (t :: q).length) * 7, none⟩ = some (.int .u8 t.w.k) ∧ w.cell? ⟨g, (ts.length - (t :: q).length) * 7 + 1, none⟩ = some (.string ⟨t.w.t.toArray⟩) ∧ w.cell? ⟨g, (ts.length - (t :: q).length) * 7 + 2, none⟩ = some (.int .u8 t.w.v.1) ∧
    w.cell? ⟨g, (ts.length - (t :: q).length) * 7 + 3, none⟩ = some (.int .i64 t.w.v.2.1) ∧ w.cell? ⟨g, (ts.length - (t :: q).length) * 7 + 4, none⟩ = some (.string ⟨t.w.v.2.2.toArray⟩) ∧ w.cell? ⟨g, (ts.length - (t :: q).length) * 7 + 5, none⟩ = some (.int .i64 t.line) ∧ w.cell? ⟨g, (ts.length - (t :: q).length) * 7 + 6, none⟩ = some (.int .i64 t.col) := by
  have hl := h.suf.len
  simp only [List.length_cons] at hl
  have hlt : ts.length - (t :: q).length < ts.length := by simp only [List.length_cons]; omega
  have he : ts[ts.length - (t :: q).length] = t := by
    have h1 := h.suf.at_drop
    have h2 := congrArg (fun l => l[0]?) h1
    simp only [List.getElem?_cons_zero, List.getElem?_drop, Nat.add_zero] at h2
    rw [List.getElem?_eq_getElem hlt] at h2
    injection h2 with h2
    exact h2.symm
  obtain ⟨g, c, e, hg, h0⟩ := h.toks.at hlt
  rw [he] at h0
  exact ⟨g, c, e, hg, hlt, h0⟩
end Go.Proofs.YtkjndabbkfbkaaaGreatDoor

/- expr: is, open, must, place. -/
namespace Go.Proofs.YtkjndabbkfbkaaaGreatDoor
open Go Go.RowKit

set_option maxRecDepth 100000 in
theorem is_any {w : World} {B b d : Nat} {X : List Nat} {vl vt : Value} {ts r : List Tkn} {nds : List Nd} (h : RdAt w B X b vl ts r d vt nds) (s : List UInt8) :
    Calls Tryz.prog 107 #[.pointer (some ⟨b, 0, none⟩), .string ⟨s.toArray⟩] w fun e w' => e = .returned (.bool (isH s r)) ∧ Below w.heap.size w w' := by
  obtain ⟨c0, c1, c2, c3, _⟩ := cells4 h.blk
  have hl := h.suf.len
  have hbig := h.big
  cases r with
  | nil =>
    obtain ⟨va, vc, rfl⟩ := h.toks.form
    have i0 : ¬ (((ts.length - ([] : List Tkn).length : Nat) : Int) < (ts.length : Int)) := by simp
    have i1 : decide (((ts.length - ([] : List Tkn).length : Nat) : Int) < (ts.length : Int)) = false := by simp
    clear h hl
    go_enter Tryz.func107, Tryz.ntmps107
    go_wp2_with fail
    go_quiet (fail)
    go_wp2_with fail
    go_ret
    exact ⟨rfl, below_drewN (Below.refl _ w) _⟩
  | cons t q =>
    obtain ⟨g, c, rfl, hg, hlt, t0, t1, _⟩ := h.head
    obtain ⟨n, hn⟩ : ∃ n, ts.length - (t :: q).length = n := ⟨_, rfl⟩
    rw [hn] at c1 hlt t0 t1
    have i0 : (n : Int) < (ts.length : Int) := by omega
    have i1 : decide ((n : Int) < (ts.length : Int)) = true := by simp; omega
    have i2 : (0 : Int) ≤ (n : Int) := by omega
    clear h hl hn
    by_cases hs : t.w.t = s
    · have e1 : (t.w.t == s) = true := by simpa using hs
      have e2 : isH s (t :: q) = (decide (t.w.k = 1) || decide (t.w.k = 7)) := by simp [isH, hs]
      rw [e2]
      obtain ⟨k, hk⟩ : ∃ k, t.w.k = k := ⟨_, rfl⟩
      rw [hk] at t0 ⊢
      clear hk e2
      rw [hs] at t1
      clear hs e1
      by_cases k1 : k = 1
      · subst k1
        go_enter Tryz.func107, Tryz.ntmps107
        go_wp2_with fail
        go_quiet (fail)
        go_wp2_with fail
        go_ret
        exact ⟨rfl, below_drewN (Below.refl _ w) _⟩
      · have f1 : (k == 1) = false := by simpa using k1
        have f2 : decide (k = 1) = false := by simpa using k1
        rw [f2]
        by_cases k7 : k = 7
        · subst k7
          go_enter Tryz.func107, Tryz.ntmps107
          go_wp2_with fail
          go_quiet (fail)
          go_wp2_with fail
          go_ret
          exact ⟨rfl, below_drewN (Below.refl _ w) _⟩
        · have f3 : (k == 7) = false := by simpa using k7
          have f4 : decide (k = 7) = false := by simpa using k7
          rw [f4]
          go_enter Tryz.func107, Tryz.ntmps107
          go_wp2_with fail
          go_quiet (fail)
          go_wp2_with fail
          go_ret
          exact ⟨rfl, below_drewN (Below.refl _ w) _⟩
    · have e1 : (t.w.t == s) = false := by simpa using hs
      have e2 : isH s (t :: q) = false := by simp [isH, hs]
      rw [e2]
      go_enter Tryz.func107, Tryz.ntmps107
      go_wp2_with fail
      go_quiet (fail)
      go_wp2_with fail
      go_ret
      exact ⟨rfl, below_drewN (Below.refl _ w) _⟩

/-- Reading is given up with an errno. -/
abbrev gaveUp (e : Int) : Ending := .panicked [{ v := .iface 84 (.int .i64 e), recovered := false }]

set_option maxRecDepth 100000 in
theorem open_deep {w : World} {B b : Nat} {X : List Nat} {vl vt : Value} {ts r : List Tkn} {nds : List Nd} (h : RdAt w B X b vl ts r 12 vt nds) :
    Calls Tryz.prog 108 #[.pointer (some ⟨b, 0, none⟩)] w fun e w' => e = gaveUp 12 ∧ w' = w := by
  obtain ⟨c0, c1, c2, c3, cf⟩ := cells4 h.blk
  have c2' : w.cell? ⟨b, 2, none⟩ = some (.int .i64 12) := c2
  clear h cf c2
  go_enter Tryz.func108, Tryz.ntmps108
  go_wp2_with fail
  exact ⟨rfl, rfl, rfl⟩
set_option maxRecDepth 100000 in
theorem open_ok' {w : World} {B b d : Nat} {X : List Nat} {vl vt : Value} {ts r : List Tkn} {nds : List Nd} (h : RdAt w B X b vl ts r d vt nds) (hd : d ≠ 12) :
    Calls Tryz.prog 108 #[.pointer (some ⟨b, 0, none⟩)] w fun e w' => e = .returned (.tuple #[]) ∧ RdAt w' B X b vl ts r (d + 1) vt nds ∧ Only [b] w w' := by
  obtain ⟨c0, c1, c2, c3, cf⟩ := cells4 h.blk
  have hd12 := h.hd
  have cf2 := cf 2
  have e1 : ((d : Int) == 12) = false := by simp; omega
  have hn := h.deep (d' := d + 1) (by omega)
  have hN := hide hn
  have ho := hide (only_setCell w b 2 (.int .i64 ((d + 1 : Nat) : Int)))
  clear h cf hn hd
  go_enter Tryz.func108, Tryz.ntmps108
  go_wp2_with fail
  go_end0
  exact ⟨rfl, hN.out, ho.out⟩
theorem place_tail (w : World) (n : Nat) (o : Obj) (a b x y : Value) (T : TypeId) (ho : o = .cells #[a, b] T) :
    ((((((w.alloc o).drewN n).setCell ⟨w.heap.size, 0, none⟩ x).setCell ⟨w.heap.size, 1, none⟩ y).setCell ⟨w.heap.size, 0, none⟩ x).setCell ⟨w.heap.size, 1, none⟩ y).heap[w.heap.size]? = some (.cells #[x, y] T (0, 0)) := by
  subst ho
  have h0 : ((w.alloc (.cells #[a, b] T)).drewN n).heap[w.heap.size]? = some (.cells #[a, b] T (0, 0)) := heap_alloc0 w _
  rw [setCell_heap (setCell_heap (setCell_heap (setCell_heap h0)))]
  rfl
theorem two_cells {w : World} {b : Nat} {x y : Value} {t : TypeId} (h : w.heap[b]? = some (.cells #[x, y] t (0, 0))) : w.cell? ⟨b, 0, none⟩ = some x ∧ w.cell? ⟨b, 1, none⟩ = some y ∧ ∀ i, w.frozen? ⟨b, i, none⟩ = false :=
  ⟨by simp only [World.cell?, h]; rfl, by simp only [World.cell?, h]; rfl, fun i => by simp only [World.frozen?, h]; simp⟩
set_option maxRecDepth 100000 in
theorem place_any {w : World} {B b d : Nat} {X : List Nat} {vl vt : Value} {ts r : List Tkn} {nds : List Nd} (h : RdAt w B X b vl ts r d vt nds) :
    Calls Tryz.prog 133 #[.pointer (some ⟨b, 0, none⟩)] w fun e w' => e = .returned (.agg #[.int .i64 (plH r).1, .int .i64 (plH r).2]) ∧ Below w.heap.size w w' := by
  obtain ⟨c0, c1, c2, c3, _⟩ := cells4 h.blk
  have hl := h.suf.len
  have hbig := h.big
  have hB := lt_of_heap h.blk
  cases r with
  | nil =>
    obtain ⟨va, vc, rfl⟩ := h.toks.form
    have i0 : ¬ (((ts.length - ([] : List Tkn).length : Nat) : Int) < (ts.length : Int)) := by simp
    have i1 : decide (((ts.length - ([] : List Tkn).length : Nat) : Int) < (ts.length : Int)) = false := by simp
    clear h hl
    go_enter Tryz.func133, Tryz.ntmps133
    go_wp2_with fail
    go_quiet (fail)
    go_wp2_with fail
    refine bodyPost_ret (v := .agg #[.int .i64 0, .int .i64 0]) (by simp [results, Tryz.results133, go_sem, *]) rfl ?_
    exact ⟨rfl, ((below_drewN ((Below.refl _ w).alloc (Nat.le_refl _) _) _).setCell (Nat.le_refl _) _).setCell (Nat.le_refl _) _⟩
  | cons t q =>
    obtain ⟨g, c, rfl, hg, hlt, t0, t1, t2, t3, t4, t5, t6⟩ := h.head
    obtain ⟨n, hn⟩ : ∃ n, ts.length - (t :: q).length = n := ⟨_, rfl⟩
    rw [hn] at c1 hlt t0 t1 t2 t3 t4 t5 t6
    have i0 : (n : Int) < (ts.length : Int) := by omega
    have i1 : decide ((n : Int) < (ts.length : Int)) = true := by simp; omega
    have i2 : (0 : Int) ≤ (n : Int) := by omega
    clear h hl hn
    go_enter Tryz.func133, Tryz.ntmps133
    go_wp2_with fail
    go_quiet (fail)
    go_wp2_with fail
    go_region
    go_wp2_with fail
    obtain ⟨z0, z1, _⟩ := two_cells (place_tail w (nq + 1) (.cells #[.int .i64 0, .int .i64 0] 26) _ _ (.int .i64 t.line) (.int .i64 t.col) _ rfl)
    refine bodyPost_ret (v := .agg #[.int .i64 t.line, .int .i64 t.col]) (by simp [results, Tryz.results133, go_sem, z0, z1]) rfl ?_
    exact ⟨rfl, ((((below_drewN ((Below.refl _ w).alloc (Nat.le_refl _) _) _).setCell (Nat.le_refl _) _).setCell (Nat.le_refl _) _).setCell (Nat.le_refl _) _).setCell (Nat.le_refl _) _⟩
set_option maxRecDepth 100000 in
theorem must_any {w : World} {B b d : Nat} {X : List Nat} {vl vt : Value} {ts r : List Tkn} {nds : List Nd} (h : RdAt w B X b vl ts r d vt nds) (s : List UInt8) :
    Calls Tryz.prog 109 #[.pointer (some ⟨b, 0, none⟩), .string ⟨s.toArray⟩] w fun e w' =>
      if isH s r then e = .returned (.tuple #[]) ∧ RdAt w' B X b vl ts r.tail d vt nds ∧ Only [b] w w' else e = gaveUp 4 ∧ Below w.heap.size w w' := by
  have hi := is_any h s
  have Hi := hide hi
  have H := hide h
  by_cases e : isH s r = true
  · rw [e] at hi Hi
    rw [e]
    simp only [if_true]
    obtain ⟨t, q, rfl⟩ := isH_ne e
    clear hi h
    go_enter Tryz.func109, Tryz.ntmps109
    go_wp2_with fail
    (with_reducible refine Hi.out.mono ?_)
    rintro e V ⟨rfl, hb⟩
    have h' := H.out.below hb
    obtain ⟨c0, c1, c2, c3, cf⟩ := cells4 h'.blk
    have cf1 := cf 1
    have hbig := h'.big
    have hst := hide h'.step
    have ho := hide ((Only.of_below hb [b]).trans (only_setCell V b 1 (.int .i64 (((ts.length - (t :: q).length : Nat) : Int) + 1))))
    clear cf h' H hb
    go_wp2_with fail
    go_end0
    exact ⟨rfl, hst.out, ho.out⟩
  · have e' : isH s r = false := by simpa using e
    rw [e'] at hi Hi
    rw [e']
    simp only [Bool.false_eq_true, if_false]
    clear hi h
    go_enter Tryz.func109, Tryz.ntmps109
    go_wp2_with fail
    (with_reducible refine Hi.out.mono ?_)
    rintro e V ⟨rfl, hb⟩
    have Hb := hide hb
    clear hb
    go_wp2_with fail
    exact ⟨rfl, rfl, Hb.out⟩
end Go.Proofs.YtkjndabbkfbkaaaGreatDoor

/- expr: infix, node. -/
namespace Go.Proofs.YtkjndabbkfbkaaaGreatDoor
open Go Go.RowKit

/-- Operators' cells. -/
def opsC : List (List UInt8 × Int) → List Value
  | [] => []
  | o :: l => .string ⟨o.1.toArray⟩ :: .int .u8 o.2 :: opsC l
theorem opsC_get : ∀ (l : List (List UInt8 × Int)) (i : Nat) (h : i < l.length), (opsC l)[i * 2]? = some (.string ⟨l[i].1.toArray⟩) ∧ (opsC l)[i * 2 + 1]? = some (.int .u8 l[i].2)
  | [], i, h => by simp at h
  | o :: l, 0, _ => ⟨rfl, rfl⟩
  | o :: l, i + 1, h => by
    have := opsC_get l i (by simpa using h)
    rw [show (i + 1) * 2 = i * 2 + 1 + 1 by omega]
    exact this
/-- The slice v is of operators. -/
def OpsIs (w : World) (g : Nat) (l : List (List UInt8 × Int)) : Prop := w.heap[g]? = some (.cells (opsC l).toArray 126 (0, 0))
theorem OpsIs.at {w : World} {g : Nat} {l : List (List UInt8 × Int)} (h : OpsIs w g l) {i : Nat} (hi : i < l.length) : w.cell? ⟨g, i * 2, none⟩ = some (.string ⟨l[i].1.toArray⟩) ∧ w.cell? ⟨g, i * 2 + 1, none⟩ = some (.int .u8 l[i].2) := by
  obtain ⟨h1, h2⟩ := opsC_get l i hi
  constructor
  · simp only [World.cell?, OpsIs] at h ⊢
    rw [h]
    simpa using h1
  · simp only [World.cell?, OpsIs] at h ⊢
    rw [h]
    simpa using h2
theorem OpsIs.below {w w' : World} {g : Nat} {l : List (List UInt8 × Int)} (h : OpsIs w g l) (hb : Below w.heap.size w w') : OpsIs w' g l := (hb.block g (lt_of_heap h)).trans h
set_option maxRecDepth 100000 in
theorem infix_any {w : World} {B b d : Nat} {X : List Nat} {vl vt : Value} {ts r : List Tkn} {nds : List Nd} (h : RdAt w B X b vl ts r d vt nds) {g : Nat} {l : List (List UInt8 × Int)} (ho : OpsIs w g l) (hl : l.length ≤ 6) :
    Calls Tryz.prog 134 #[.pointer (some ⟨b, 0, none⟩), .slice (some ⟨g, 0, none⟩) l.length l.length] w fun e w' => e = .returned (.int .u8 (infixH r l)) ∧ Below w.heap.size w w' := by
  have H := hide h
  have Ho := hide ho
  clear h ho
  go_enter Tryz.func134, Tryz.ntmps134
  go_wp2_with fail
  go_loopw [9] (fun vi wr => ∃ j : Nat, j ≤ l.length ∧ vi = .int .i64 j ∧ Hid (infixH r (l.drop j) = infixH r l) ∧ Hid (Below w.heap.size w wr)) (fun vi _ => l.length - (intOf vi).toNat)
  case atStart => exact ⟨0, Nat.zero_le _, rfl, rfl, Below.refl _ _⟩
  case round =>
    obtain ⟨j, hj, rfl, hq, hb⟩ := hrel
    by_cases hjl : j < l.length
    · obtain ⟨d0, d1⟩ := (Ho.out.below hb.out).at hjl
      have e1 := List.drop_eq_getElem_cons hjl
      have e2 : (if isH l[j].1 r then l[j].2 else infixH r (l.drop (j + 1))) = infixH r l := by
        rw [← hq.out, e1]
        rfl
      obtain ⟨⟨s, o⟩, hlj⟩ : ∃ x, l[j] = x := ⟨_, rfl⟩
      rw [hlj] at d0 d1 e2
      simp only at d0 d1 e2
      have i1 : (0 : Int) ≤ (j : Int) := by omega
      have i2 : (j : Int) < (l.length : Int) := by omega
      have hb2 : Below wr.heap.size wr (wr.alloc (.cells #[.string ⟨s.toArray⟩, .int .u8 o] 126)) := (Below.refl _ wr).alloc (Nat.le_refl _) _
      have hz2 := heap_alloc0 wr (.cells #[.string ⟨s.toArray⟩, .int .u8 o] 126)
      obtain ⟨z0, z1, _⟩ := two_cells hz2
      have hi := hide (is_any ((H.out.below hb.out).below hb2) s)
      have HZ := hide (lt_of_heap hz2)
      have HB := hide (hb.out.trans (hb2.mono hb.out.size))
      have E2 := hide e2
      have hj9 : (j : Int) ≤ 6 := by omega
      clear hq hb hb2 hz2 e1 e2 hlj
      go_wp2_with fail
      (with_reducible refine hi.out.mono ?_)
      rintro e V ⟨rfl, hbV⟩
      have z1' := bcell hbV z1
      have HBV := hide (HB.out.trans (hbV.mono HB.out.size))
      have E3 := E2.out
      clear z0 z1 d0 d1 hbV HZ HB E2 hi
      cases hh : isH s r with
      | true =>
        rw [hh] at E3
        simp only [if_true] at E3
        have HE := hide E3
        clear E3
        go_wp2_with fail
        go_ret
        exact ⟨by rw [← HE.out]; rfl, HBV.out⟩
      | false =>
        rw [hh] at E3
        simp only [Bool.false_eq_true, if_false] at E3
        have HE := hide E3
        clear E3
        go_wp2_with fail
        go_roundw
        case rel => exact ⟨j + 1, by omega, by go_num, HE, HBV⟩
        case measure => simp [intOf]; omega
    · obtain rfl : j = l.length := by omega
      have e2 := hq.out
      rw [List.drop_length] at e2
      have HE := hide e2
      have HB := hide hb.out
      clear hq hb e2
      go_wp2_with fail
      go_ret
      exact ⟨by rw [← HE.out]; rfl, HB.out⟩

theorem nodeinfo : (Tryz.prog.info? 34).map (fun i => (i.zero, i.size, i.bytes)) = some (some (.agg #[.int .u8 0, .int .u8 0, .int .i64 0, .string ⟨#[]⟩, .string ⟨#[]⟩, .slice none 0 0, .int .i64 0, .int .i64 0]), 8, 96) := by kernel_rfl
theorem nodeinfo_parts : ∃ i, Tryz.prog.info? 34 = some i ∧ i.zero = some (.agg #[.int .u8 0, .int .u8 0, .int .i64 0, .string ⟨#[]⟩, .string ⟨#[]⟩, .slice none 0 0, .int .i64 0, .int .i64 0]) ∧ i.size = 8 ∧ i.bytes = 96 := by
  have h := nodeinfo
  cases hi : Tryz.prog.info? 34 with
  | none => simp [hi] at h
  | some i =>
    simp [hi] at h
    exact ⟨i, rfl, h.1, h.2.1, h.2.2⟩
/-- A node as it is handed over: without its expressions. -/
def hdV (h : Hd) : Value := .agg #[.int .u8 h.op, .int .u8 h.v.1, .int .i64 h.v.2.1, .string ⟨h.v.2.2.toArray⟩, .string ⟨h.name.toArray⟩, .slice none 0 0, .int .i64 h.line, .int .i64 h.col]
/-- A node is laid behind the others. -/
theorem RdAt.lay {w W Z : World} {B b d : Nat} {X : List Nat} {vl vt v' kv : Value} {ts r : List Tkn} {nds : List Nd} {kvs : List Value} {n : Nd} (h : RdAt w B X b vl ts r d vt nds) (hk1 : w.ownsRow B 34 8 vt nds.length (nflat kvs nds)) (hk2 : KidsAre w B X kvs nds)
    (hkv : w.ownsRow B 3 1 kv n.kids.length (nums n.kids)) (hkx : ∀ g, kv.ownBlock = some g → g ∉ X) (hbw : Below w.heap.size w W) (hg : W.grownBy Z vt.ownBlock) (hown : Z.ownsRow B 34 8 v' (nds.length + 1) (nflat kvs nds ++ nflat [kv] [n])) (hv : ∀ g, v'.ownBlock = some g → vt.ownBlock = some g ∨ w.heap.size ≤ g)
    (hroom : nds.length + 1 + r.length ≤ 1000000) : RdAt (Z.setCell ⟨b, 3, none⟩ v') B X b vl ts r d v' (nds ++ [n]) ∧ Rch b w vt (Z.setCell ⟨b, 3, none⟩ v') v' := by
  have hX : Only vt.ownBlock.toList w Z := (Only.of_below hbw _).trans (Only.of_grown hg _ fun k hk => by simp [hk])
  have hbt : vt.ownBlock ≠ some b := h.tree.not h.blk (by decide)
  have hbX : Z.heap[b]? = some (.cells #[vl, .int .i64 ((ts.length - r.length : Nat) : Int), .int .i64 (d : Int), vt] 83 (0, 0)) := (hX.block b (lt_of_heap h.blk) (by simpa using hbt)).trans h.blk
  have hb2 : (Z.setCell ⟨b, 3, none⟩ v').heap[b]? = some (.cells #[vl, .int .i64 ((ts.length - r.length : Nat) : Int), .int .i64 (d : Int), v'] 83 (0, 0)) := by
    rw [setCell_heap hbX]
    rfl
  have hO : Only (b :: vt.ownBlock.toList) w (Z.setCell ⟨b, 3, none⟩ v') := (hX.mono fun i hi => List.mem_cons_of_mem _ hi).setCell (.inl (by simp)) _
  have hint : ∀ v k xs, w.ownsRow B 3 1 v k xs → Z.ownsRow B 3 1 v k xs := fun v k xs q => owns_only q hX fun g e hm => by
    have hm' : vt.ownBlock = some g := by simpa using hm
    rcases q.2 with ⟨rfl, _⟩ | ⟨g', cap, cur, rfl, _, hg', _⟩
    · cases e
    · simp only [Value.ownBlock, Option.some.injEq] at e
      subst e
      exact owns_not hk1 hg' (by decide) hm'
  have hset : ∀ {t : TypeId} {sz : Nat} v k xs, t ≠ 83 → Z.ownsRow B t sz v k xs → (Z.setCell ⟨b, 3, none⟩ v').ownsRow B t sz v k xs := fun v k xs ht q => owns_only q (only_setCell Z b 3 v') fun g e hm => by
    simp at hm
    subst hm
    exact owns_not q hbX ht e
  refine ⟨⟨h.suf, h.toks.kept hO.size fun g hg hlt => hO.block g hlt fun hm => ?_, h.nam, h.tl, h.hB, fun x hx => Nat.lt_of_lt_of_le (h.xl x hx) hO.size, h.hd, h.big, by simpa using hroom, hb2, kvs ++ [kv], ?_, ?_⟩, hO, fun g hg => hv g hg⟩
  · have h1 := h.tl g hg
    rcases List.mem_cons.1 hm with rfl | hm
    · have := h.hB
      omega
    · have := h.tree.own g (by simpa using hm)
      omega
  · rw [nflat_snoc hk2.len]
    have := hset _ _ _ (by decide) hown
    simpa using this
  · exact KidsAre.snoc (hk2.imp fun v k xs hn q => ⟨hset v k xs (by decide) (hint v k xs q), hn⟩) ⟨hset _ _ _ (by decide) (hint _ _ _ hkv), hkx⟩
set_option maxRecDepth 100000 in
set_option maxHeartbeats 4000000 in
theorem node_any {w : World} {B b d : Nat} {X : List Nat} {vl vt : Value} {ts r : List Tkn} {nds : List Nd} (h : RdAt w B X b vl ts r d vt nds) (hroom : nds.length + 1 + r.length ≤ 1000000) (hB : B ≤ w.heap.size) (hd : Hd) (kids : List Nat) (ka : Option Addr) (kc : Nat) (hk : w.ownsRow B 3 1 (.slice ka kids.length kc) kids.length (nums kids)) (hkx : ∀ g, (Value.slice ka kids.length kc).ownBlock = some g → g ∉ X) :
    Calls Tryz.prog 110 #[.pointer (some ⟨b, 0, none⟩), hdV hd, .slice ka kids.length kc] w fun e w' => e = .returned (.int .i64 (nds.length : Int)) ∧ ∃ vt', RdAt w' B X b vl ts r d vt' (nds ++ [⟨hd, kids⟩]) ∧ Rch b w vt w' vt' := by
  obtain ⟨kvs, hk1, hk2⟩ := h.tree
  obtain ⟨la, lc, rfl⟩ := row_form hk1
  obtain ⟨c0, c1, c2, c3, cf⟩ := cells4 h.blk
  have cf3 := cf 3
  obtain ⟨i0, hi, hz0, hz1, hz2⟩ := nodeinfo_parts
  have hb := lt_of_heap h.blk
  obtain ⟨op, ⟨vk, vn, vs⟩, nm, ln, cl⟩ := hd
  have Ow : Hid (((w.alloc (.cells #[.int .u8 op, .int .u8 vk, .int .i64 vn, .string ⟨vs.toArray⟩, .string ⟨nm.toArray⟩, .slice ka kids.length kc, .int .i64 ln, .int .i64 cl] 34)).alloc (.cells #[.int .u8 op, .int .u8 vk, .int .i64 vn, .string ⟨vs.toArray⟩, .string ⟨nm.toArray⟩, .slice ka kids.length kc, .int .i64 ln, .int .i64 cl] 34)).drew.ownsRow B 34 8 (.slice la nds.length lc) nds.length (nflat kvs nds)) := hide (owns_below hk1 (Only.drew (((Only.refl [] w).alloc _).alloc _)).below)
  have OW : Hid (Below w.heap.size w ((w.alloc (.cells #[.int .u8 op, .int .u8 vk, .int .i64 vn, .string ⟨vs.toArray⟩, .string ⟨nm.toArray⟩, .slice ka kids.length kc, .int .i64 ln, .int .i64 cl] 34)).alloc (.cells #[.int .u8 op, .int .u8 vk, .int .i64 vn, .string ⟨vs.toArray⟩, .string ⟨nm.toArray⟩, .slice ka kids.length kc, .int .i64 ln, .int .i64 cl] 34)).drew) := hide (Only.drew (((Only.refl [] w).alloc _).alloc _)).below
  have HS : Hid (((w.alloc (.cells #[.int .u8 op, .int .u8 vk, .int .i64 vn, .string ⟨vs.toArray⟩, .string ⟨nm.toArray⟩, .slice ka kids.length kc, .int .i64 ln, .int .i64 cl] 34)).alloc (.cells #[.int .u8 op, .int .u8 vk, .int .i64 vn, .string ⟨vs.toArray⟩, .string ⟨nm.toArray⟩, .slice ka kids.length kc, .int .i64 ln, .int .i64 cl] 34)).drew.heap.size = w.heap.size + 2) := hide (by show ((w.alloc _).alloc _).heap.size = _; simp)
  have hbt : Hid (Value.ownBlock (.slice la nds.length lc) ≠ some b) := hide (h.tree.not h.blk (by decide))
  have HN : Hid (((w.alloc (.cells #[.int .u8 op, .int .u8 vk, .int .i64 vn, .string ⟨vs.toArray⟩, .string ⟨nm.toArray⟩, .slice ka kids.length kc, .int .i64 ln, .int .i64 cl] 34)).alloc (.cells #[.int .u8 op, .int .u8 vk, .int .i64 vn, .string ⟨vs.toArray⟩, .string ⟨nm.toArray⟩, .slice ka kids.length kc, .int .i64 ln, .int .i64 cl] 34)).drew.heap[w.heap.size + 1]? = some (.cells #[.int .u8 op, .int .u8 vk, .int .i64 vn, .string ⟨vs.toArray⟩, .string ⟨nm.toArray⟩, .slice ka kids.length kc, .int .i64 ln, .int .i64 cl] 34)) := hide (by
    have := heap_alloc0 (w.alloc (.cells #[.int .u8 op, .int .u8 vk, .int .i64 vn, .string ⟨vs.toArray⟩, .string ⟨nm.toArray⟩, .slice ka kids.length kc, .int .i64 ln, .int .i64 cl] 34)) (.cells #[.int .u8 op, .int .u8 vk, .int .i64 vn, .string ⟨vs.toArray⟩, .string ⟨nm.toArray⟩, .slice ka kids.length kc, .int .i64 ln, .int .i64 cl] 34)
    rw [show (w.alloc (.cells #[.int .u8 op, .int .u8 vk, .int .i64 vn, .string ⟨vs.toArray⟩, .string ⟨nm.toArray⟩, .slice ka kids.length kc, .int .i64 ln, .int .i64 cl] 34)).heap.size = w.heap.size + 1 by simp] at this
    exact this)
  have p3 := bcell OW.out c3
  have pf : ((w.alloc (.cells #[.int .u8 op, .int .u8 vk, .int .i64 vn, .string ⟨vs.toArray⟩, .string ⟨nm.toArray⟩, .slice ka kids.length kc, .int .i64 ln, .int .i64 cl] 34)).alloc (.cells #[.int .u8 op, .int .u8 vk, .int .i64 vn, .string ⟨vs.toArray⟩, .string ⟨nm.toArray⟩, .slice ka kids.length kc, .int .i64 ln, .int .i64 cl] 34)).drew.frozen? ⟨b, 3, none⟩ = false := (OW.out.frozen (p := ⟨b, 3, none⟩) hb).trans cf3
  have HK1 := hide hk1
  have HK2 := hide hk2
  have HK := hide hk
  have Hkx := hide hkx
  have H := hide h
  have Hi := hide hi
  have Hz0 := hide hz0
  have Hz1 := hide hz1
  have Hz2 := hide hz2
  clear h hk1 hk2 hk hkx hi hz0 hz1 hz2 cf
  unfold hdV
  go_enter Tryz.func110, Tryz.ntmps110
  go_wp2_with fail
  go_region_law
    ((refine step_append_lies _ (by rfl) _ _ _ (by rfl) B 34 i0 (.agg #[.int .u8 0, .int .u8 0, .int .i64 0, .string ⟨#[]⟩, .string ⟨#[]⟩, .slice none 0 0, .int .i64 0, .int .i64 0]) 8 96 Tryz.underlying24 Hi.out Hz0.out Hz1.out Hz2.out rfl (by decide) (.slice la nds.length lc) nds.length (nflat kvs nds) (by rfl) Ow.out ⟨w.heap.size + 1, 0, none⟩ 1 1 [.int .u8 op, .int .u8 vk, .int .i64 vn, .string ⟨vs.toArray⟩, .string ⟨nm.toArray⟩, .slice ka kids.length kc, .int .i64 ln, .int .i64 cl] (by rfl) (by rfl) (World.news_of_block (cs := #[.int .u8 op, .int .u8 vk, .int .i64 vn, .string ⟨vs.toArray⟩, .string ⟨nm.toArray⟩, .slice ka kids.length kc, .int .i64 ln, .int .i64 cl]) (t := 34) (fr := (0, 0)) HN.out) (by simp [Value.oneCell']) (by decide) (by unfold maxLen; omega) (by omega) (by rw [HS.out]; omega) (w.heap.size + 2) HS.out ?_; intro g cap w3 hown3 hgrow hat hlt; have r0 := (hgrow.cell_far ⟨b, 3, none⟩ (by show b < _; rw [HS.out]; omega) (Ne.symm hbt.out)).trans p3; have rf := (hgrow.frozen_far ⟨b, 3, none⟩ (by show b < _; rw [HS.out]; omega) (Ne.symm hbt.out)).trans pf))
  all_goals
    have hG := H.out.lay (n := ⟨⟨op, (vk, vn, vs), nm, ln, cl⟩, kids⟩) HK1.out HK2.out HK.out Hkx.out OW.out hgrow hown3 (fun x hx => by
      simp only [Value.ownBlock, Option.some.injEq] at hx
      subst hx
      rcases hat with q | q
      · exact .inl q
      · exact .inr (by omega)) hroom
    clear hown3 hgrow hat hlt r0 rf p3 pf c0 c1 c2 c3 Ow OW HS hbt HN HK1 HK2 HK
    obtain ⟨W1, hW1⟩ : ∃ W1, w3.setCell ⟨b, 3, none⟩ (.slice (some ⟨g, 0, none⟩) (nds.length + 1) cap) = W1 := ⟨_, rfl⟩
    rw [hW1] at hG ⊢
    clear hW1
    obtain ⟨_, _, _, c3, _⟩ := cells4 hG.1.blk
    have HG := hide hG
    clear hG
    go_wp2_with fail
    go_ret
    refine ⟨?_, _, HG.out.1, HG.out.2⟩
    first | rfl | (simp; done)
end Go.Proofs.YtkjndabbkfbkaaaGreatDoor
