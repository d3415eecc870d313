/- expr: the reader's state; is, open, must, place. -/
import Derived.Test.YtkjndabbkfbkaaaGreatDoorExL
import Derived.Deep.AppendLies
import Derived.Laws.Externs
namespace Go.Proofs.YtkjndabbkfbkaaaGreatDoor
open Go Go.RowKit

/-- The cells of nodes, given their expressions' slices. -/
def nflat : List Value → List Nd → List Value
  | kv :: kvs, n :: ns => .int .u8 n.h.op :: .int .u8 n.h.v.1 :: .int .i64 n.h.v.2.1 :: .string ⟨n.h.v.2.2.toArray⟩ :: .string ⟨n.h.name.toArray⟩ :: kv :: .int .i64 n.h.line :: .int .i64 n.h.col :: nflat kvs ns
  | _, _ => []
/-- Numbers of nodes, as they lie. -/
def nums (l : List Nat) : List Value := l.map fun (k : Nat) => Value.int .i64 (k : Int)
/-- The expressions' slices: rows of one's own, in none of some blocks. -/
def KidsAre (w : World) (B : Nat) (X : List Nat) : List Value → List Nd → Prop
  | [], [] => True
  | v :: vs, n :: ns => (w.ownsRow B 3 1 v n.kids.length (nums n.kids) ∧ ∀ g, v.ownBlock = some g → g ∉ X) ∧ KidsAre w B X vs ns
  | _, _ => False
theorem KidsAre.snoc {w : World} {B : Nat} {X : List Nat} {v : Value} {n : Nd} : ∀ {vs : List Value} {ns : List Nd}, KidsAre w B X vs ns → (w.ownsRow B 3 1 v n.kids.length (nums n.kids) ∧ ∀ g, v.ownBlock = some g → g ∉ X) → KidsAre w B X (vs ++ [v]) (ns ++ [n])
  | [], [], _, h => ⟨h, trivial⟩
  | _ :: _, _ :: _, h, k => ⟨h.1, KidsAre.snoc h.2 k⟩
  | [], _ :: _, h, _ => h.elim
  | _ :: _, [], h, _ => h.elim
theorem KidsAre.imp {w w' : World} {B : Nat} {X : List Nat} {Y : List Nat} (hk : ∀ v n xs, (∀ g, v.ownBlock = some g → g ∉ X) → w.ownsRow B 3 1 v n xs → w'.ownsRow B 3 1 v n xs ∧ ∀ g, v.ownBlock = some g → g ∉ Y) : ∀ {vs : List Value} {ns : List Nd}, KidsAre w B X vs ns → KidsAre w' B Y vs ns
  | [], [], _ => trivial
  | _ :: _, _ :: _, h => ⟨hk _ _ _ h.1.2 h.1.1, KidsAre.imp hk h.2⟩
  | [], _ :: _, h => h.elim
  | _ :: _, [], h => h.elim
theorem KidsAre.base {w : World} {B B' : Nat} {X : List Nat} (hB : B' ≤ B) : ∀ {vs : List Value} {ns : List Nd}, KidsAre w B X vs ns → KidsAre w B' X vs ns
  | [], [], _ => trivial
  | _ :: _, _ :: _, h => ⟨⟨owns_base h.1.1 hB, h.1.2⟩, KidsAre.base hB h.2⟩
  | [], _ :: _, h => h.elim
  | _ :: _, [], h => h.elim
theorem KidsAre.len {w : World} {B : Nat} {X : List Nat} : ∀ {vs : List Value} {ns : List Nd}, KidsAre w B X vs ns → vs.length = ns.length
  | [], [], _ => rfl
  | _ :: _, _ :: _, h => by simp [KidsAre.len h.2]
  | [], _ :: _, h => h.elim
  | _ :: _, [], h => h.elim
theorem nflat_snoc {v : Value} {n : Nd} : ∀ {vs : List Value} {ns : List Nd}, vs.length = ns.length → nflat (vs ++ [v]) (ns ++ [n]) = nflat vs ns ++ nflat [v] [n]
  | [], [], _ => rfl
  | _ :: vs, _ :: ns, h => by simp [nflat, nflat_snoc (vs := vs) (ns := ns) (by simpa using h)]
  | [], _ :: _, h => by simp at h
  | _ :: _, [], h => by simp at h
theorem nflat_len : ∀ {vs : List Value} {ns : List Nd}, vs.length = ns.length → (nflat vs ns).length = ns.length * 8
  | [], [], _ => rfl
  | _ :: vs, _ :: ns, h => by simp [nflat, nflat_len (vs := vs) (ns := ns) (by simpa using h)]; omega
  | [], _ :: _, h => by simp at h
  | _ :: _, [], h => by simp at h
/-- The slice v reads as nodes: rows of one's own from B on. -/
def TrIs (w : World) (B : Nat) (X : List Nat) (v : Value) (nds : List Nd) : Prop := ∃ kvs, w.ownsRow B 34 8 v nds.length (nflat kvs nds) ∧ KidsAre w B X kvs nds
/-- The reader: words, where it is, how many levels are open, nodes. -/
structure RdAt (w : World) (B : Nat) (X : List Nat) (b : Nat) (vl : Value) (ts r : List Tkn) (d : Nat) (vt : Value) (nds : List Nd) : Prop where
  suf : Suf r ts
  toks : TkIs w vl ts
  nam : ∀ t ∈ ts, t.w.k = 1 → t.w.t ≠ [40]
  tl : ∀ g, vl.ownBlock = some g → g < B
  hB : B ≤ b
  xl : ∀ x ∈ X, x < w.heap.size
  hd : d ≤ 12
  big : ts.length ≤ 1000000
  few : nds.length + r.length ≤ 1000000
  blk : w.heap[b]? = some (.cells #[vl, .int .i64 ((ts.length - r.length : Nat) : Int), .int .i64 (d : Int), vt] 83 (0, 0))
  tree : TrIs w B X vt nds
/-- Where reading was given up. -/
def RdErr (w : World) (b : Nat) (vl : Value) (p : Nat) : Prop := ∃ dd vv, w.heap[b]? = some (.cells #[vl, .int .i64 (p : Int), dd, vv] 83 (0, 0))
/-- What has turned: the reader, the row of nodes; a new row of nodes is new. -/
structure Rch (b : Nat) (w : World) (vt : Value) (w' : World) (vt' : Value) : Prop where
  only : Only (b :: vt.ownBlock.toList) w w'
  own : ∀ g, vt'.ownBlock = some g → vt.ownBlock = some g ∨ w.heap.size ≤ g
theorem Rch.refl (b : Nat) (w : World) (vt : Value) : Rch b w vt w vt := ⟨Only.refl _ _, fun _ h => .inl h⟩
theorem Rch.trans {b : Nat} {w w1 w2 : World} {vt v1 v2 : Value} (h : Rch b w vt w1 v1) (k : Rch b w1 v1 w2 v2) : Rch b w vt w2 v2 := by
  refine ⟨h.only.step k.only fun i hi => ?_, fun g hg => ?_⟩
  · rcases List.mem_cons.1 hi with rfl | hi
    · exact .inl List.mem_cons_self
    · have e : v1.ownBlock = some i := by simpa using hi
      rcases h.own i e with q | q
      · exact .inl (List.mem_cons_of_mem _ (by simpa using q))
      · exact .inr q
  · rcases k.own g hg with q | q
    · exact h.own g q
    · exact .inr (Nat.le_trans h.only.size q)
theorem Rch.err {b : Nat} {w w1 w2 : World} {vt v1 : Value} (h : Rch b w vt w1 v1) (k : Only (b :: v1.ownBlock.toList) w1 w2) : Only (b :: vt.ownBlock.toList) w w2 :=
  (h.trans (v2 := v1) ⟨k, fun _ q => .inl q⟩).only
theorem Rch.of_below {b : Nat} {w w' : World} (vt : Value) (h : Below w.heap.size w w') : Rch b w vt w' vt := ⟨Only.of_below h _, fun _ q => .inl q⟩
theorem Rch.of_only {b : Nat} {w w' : World} (vt : Value) (h : Only [b] w w') : Rch b w vt w' vt := ⟨h.mono fun i hi => by simp at hi; simp [hi], fun _ q => .inl q⟩
theorem Suf.at_drop {r ts : List Tkn} (h : Suf r ts) : r = ts.drop (ts.length - r.length) := by
  obtain ⟨k, rfl⟩ := h
  rw [List.length_drop]
  by_cases hk : k ≤ ts.length
  · rw [show ts.length - (ts.length - k) = k by omega]
  · rw [List.drop_eq_nil_of_le (by omega), List.drop_eq_nil_of_le (by omega)]
theorem TrIs.imp {w w' : World} {B : Nat} {X : List Nat} {v : Value} {nds : List Nd} (h : TrIs w B X v nds) (ht : ∀ xs, w.ownsRow B 34 8 v nds.length xs → w'.ownsRow B 34 8 v nds.length xs)
    {Y : List Nat} (hk : ∀ v n xs, (∀ g, v.ownBlock = some g → g ∉ X) → w.ownsRow B 3 1 v n xs → w'.ownsRow B 3 1 v n xs ∧ ∀ g, v.ownBlock = some g → g ∉ Y) : TrIs w' B Y v nds := by
  obtain ⟨kvs, h1, h2⟩ := h
  exact ⟨kvs, ht _ h1, h2.imp hk⟩
theorem TrIs.below {w w' : World} {B : Nat} {X : List Nat} {v : Value} {nds : List Nd} (h : TrIs w B X v nds) (hb : Below w.heap.size w w') : TrIs w' B X v nds := h.imp (fun _ q => owns_below q hb) fun _ _ _ n q => ⟨owns_below q hb, n⟩
theorem TrIs.own {w : World} {B : Nat} {X : List Nat} {v : Value} {nds : List Nd} (h : TrIs w B X v nds) : ∀ g, v.ownBlock = some g → B ≤ g := by
  obtain ⟨kvs, h1, _⟩ := h
  exact row_own h1
theorem TrIs.not {w : World} {B k : Nat} {X : List Nat} {t : TypeId} {v : Value} {nds : List Nd} {cs : Array Value} (h : TrIs w B X v nds) (hk : w.heap[k]? = some (.cells cs t (0, 0))) (ht : 34 ≠ t) : v.ownBlock ≠ some k := by
  obtain ⟨kvs, h1, _⟩ := h
  exact owns_not h1 hk ht
theorem RdAt.below {w w' : World} {B b d : Nat} {X : List Nat} {vl vt : Value} {ts r : List Tkn} {nds : List Nd} (h : RdAt w B X b vl ts r d vt nds) (hb : Below w.heap.size w w') : RdAt w' B X b vl ts r d vt nds :=
  ⟨h.suf, h.toks.below hb, h.nam, h.tl, h.hB, fun x hx => Nat.lt_of_lt_of_le (h.xl x hx) hb.size, h.hd, h.big, h.few, (hb.block b (lt_of_heap h.blk)).trans h.blk, h.tree.below hb⟩
/-- The reader itself has turned. -/
theorem RdAt.turn {w w' : World} {B b d d' : Nat} {X : List Nat} {vl vt : Value} {ts r r' : List Tkn} {nds : List Nd} (h : RdAt w B X b vl ts r d vt nds) (ho : Only [b] w w') (hs : Suf r' r) (hd : d' ≤ 12)
    (hb : w'.heap[b]? = some (.cells #[vl, .int .i64 ((ts.length - r'.length : Nat) : Int), .int .i64 (d' : Int), vt] 83 (0, 0))) : RdAt w' B X b vl ts r' d' vt nds := by
  have hl := hs.len
  refine ⟨hs.trans h.suf, h.toks.kept ho.size fun g hg hlt => ho.block g hlt ?_, h.nam, h.tl, h.hB, fun x hx => Nat.lt_of_lt_of_le (h.xl x hx) ho.size, hd, h.big, by have := h.few; omega, hb, h.tree.imp (fun _ q => owns_only q ho fun k e hm => ?_) fun v n xs hn q => ⟨owns_only q ho fun k e hm => ?_, hn⟩⟩
  · have := h.tl g hg
    have := h.hB
    simp
    omega
  · simp at hm
    subst hm
    exact h.tree.not h.blk (by decide) e
  · simp at hm
    subst hm
    exact owns_not q h.blk (by decide) e
theorem cells4 {w : World} {b : Nat} {x y z u : Value} {t : TypeId} (h : w.heap[b]? = some (.cells #[x, y, z, u] t (0, 0))) :
    w.cell? ⟨b, 0, none⟩ = some x ∧ w.cell? ⟨b, 1, none⟩ = some y ∧ w.cell? ⟨b, 2, none⟩ = some z ∧ w.cell? ⟨b, 3, none⟩ = some u ∧ ∀ i, w.frozen? ⟨b, i, none⟩ = false :=
  ⟨by simp only [World.cell?, h]; rfl, by simp only [World.cell?, h]; rfl, by simp only [World.cell?, h]; rfl, by simp only [World.cell?, h]; rfl, fun i => by simp only [World.frozen?, h]; simp⟩
theorem only_setCell (w : World) (b i : Nat) (u : Value) : Only [b] w (w.setCell ⟨b, i, none⟩ u) := (Only.refl [b] w).setCell (.inl (by simp)) u
/-- The next word is taken. -/
theorem RdAt.step {w : World} {B b d : Nat} {X : List Nat} {vl vt : Value} {ts q : List Tkn} {t : Tkn} {nds : List Nd} (h : RdAt w B X b vl ts (t :: q) d vt nds) :
    RdAt (w.setCell ⟨b, 1, none⟩ (.int .i64 (((ts.length - (q.length + 1) : Nat) : Int) + 1))) B X b vl ts q d vt nds := by
  have hl := h.suf.len
  simp only [List.length_cons] at hl
  refine h.turn (only_setCell _ _ _ _) ⟨1, rfl⟩ h.hd ?_
  rw [setCell_heap h.blk]
  have : ((ts.length - (q.length + 1) : Nat) : Int) + 1 = ((ts.length - q.length : Nat) : Int) := by omega
  rw [this]
  rfl
/-- A level is opened, or shut. -/
theorem RdAt.deep {w : World} {B b d d' : Nat} {X : List Nat} {vl vt : Value} {ts r : List Tkn} {nds : List Nd} (h : RdAt w B X b vl ts r d vt nds) (hd : d' ≤ 12) : RdAt (w.setCell ⟨b, 2, none⟩ (.int .i64 (d' : Int))) B X b vl ts r d' vt nds := by
  refine h.turn (only_setCell _ _ _ _) (Suf.refl _) hd ?_
  rw [setCell_heap h.blk]
  rfl
theorem RdAt.head {w : World} {B b d : Nat} {X : List Nat} {vl vt : Value} {ts q : List Tkn} {t : Tkn} {nds : List Nd} (h : RdAt w B X b vl ts (t :: q) d vt nds) : ∃ g c, vl = .slice (some ⟨g, 0, none⟩) ts.length c ∧ g < w.heap.size ∧ ts.length - (t :: q).length < ts.length ∧
    w.cell? ⟨g, (ts.length - (t :: q).length) * 7, none⟩ = some (.int .u8 t.w.k) ∧ w.cell? ⟨g, (ts.length - (t :: q).length) * 7 + 1, none⟩ = some (.string ⟨t.w.t.toArray⟩) ∧ w.cell? ⟨g, (ts.length - (t :: q).length) * 7 + 2, none⟩ = some (.int .u8 t.w.v.1) ∧
    w.cell? ⟨g, (ts.length - (t :: q).length) * 7 + 3, none⟩ = some (.int .i64 t.w.v.2.1) ∧ w.cell? ⟨g, (ts.length - (t :: q).length) * 7 + 4, none⟩ = some (.string ⟨t.w.v.2.2.toArray⟩) ∧ w.cell? ⟨g, (ts.length - (t :: q).length) * 7 + 5, none⟩ = some (.int .i64 t.line) ∧ w.cell? ⟨g, (ts.length - (t :: q).length) * 7 + 6, none⟩ = some (.int .i64 t.col) := by
  have hl := h.suf.len
  simp only [List.length_cons] at hl
  have hlt : ts.length - (t :: q).length < ts.length := by simp only [List.length_cons]; omega
  have he : ts[ts.length - (t :: q).length] = t := by
    have h1 := h.suf.at_drop
    have h2 := congrArg (fun l => l[0]?) h1
    simp only [List.getElem?_cons_zero, List.getElem?_drop, Nat.add_zero] at h2
    rw [List.getElem?_eq_getElem hlt] at h2
    injection h2 with h2
    exact h2.symm
  obtain ⟨g, c, e, hg, h0⟩ := h.toks.at hlt
  rw [he] at h0
  exact ⟨g, c, e, hg, hlt, h0⟩
end Go.Proofs.YtkjndabbkfbkaaaGreatDoor
