/- The book of truth: what it reads as; none, New, IsPlain, Plain, Drop. -/
import Derived.Test.YtmcajoccfbebiaaNis
import Derived.Test.YtmcajoccfbebiaaRowK
import Derived.RegionTactic
import Derived.BigQuiet
import Derived.Deep.QuietTactic
import Derived.Deep.RegionHeld3
import Derived.Deep.RegionLaw
namespace Go.Proofs.Ytmcajoccfbebiaa
open Go Go.RowKit Go.MapKept Go.Sort

/-- A justification: its rule, its ids, and the slice that holds them. -/
structure Jc where
  rule : Int
  tup : List Int
  x : Value
/-- A fact: its id, whether it is plain, its justifications, and the slice that holds them. -/
structure Sp where
  id : Int
  plain : Bool
  js : List Jc
  v : Value
def Sp.val (p : Sp) : Value := .agg #[.bool p.plain, p.v]
def Sp.pair (p : Sp) : Int × Value := (p.id, p.val)
def Jc.val (j : Jc) : Value := .agg #[.int .i64 j.rule, j.x]
/-- What a justification says. -/
def Jc.co (j : Jc) : Int × List Int := (j.rule, j.tup)

def CapOk : Value → Prop
  | .slice _ n c => n ≤ c
  | _ => True

/-- The slice v reads as js. -/
structure JsIs (w : World) (v : Value) (js : List Jc) : Prop where
  len : js.length ≤ 1000000
  row : (∃ b off cap, v = .slice (some ⟨b, off, none⟩) js.length cap ∧ ∀ i (h : i < js.length), w.cell? ⟨b, off + i * 2, none⟩ = some (.int .i64 js[i].rule) ∧ w.cell? ⟨b, off + i * 2 + 1, none⟩ = some js[i].x) ∨ (js = [] ∧ (v = .slice none 0 0 ∨ ∃ a cap, v = .slice (some a) 0 cap))
  tups : ∀ j ∈ js, NIs w j.x j.tup
  cap : CapOk v

theorem JsIs.form {w : World} {v : Value} {js : List Jc} (h : JsIs w v js) : ∃ a c, v = .slice a js.length c := by
  rcases h.row with ⟨b, off, cap, rfl, _⟩ | ⟨rfl, rfl | ⟨a, cap, rfl⟩⟩ <;> exact ⟨_, _, rfl⟩
theorem JsIs.nil (w : World) : JsIs w (.slice none 0 0) [] := ⟨by simp, .inr ⟨rfl, .inl rfl⟩, by simp, Nat.le_refl _⟩
theorem JsIs.at {w : World} {v : Value} {js : List Jc} (h : JsIs w v js) {k : Nat} (hk : k < js.length) : ∃ b off cap xa xc, v = .slice (some ⟨b, off, none⟩) js.length cap ∧ js[k].x = .slice xa js[k].tup.length xc ∧
    w.cell? ⟨b, off + k * 2, none⟩ = some (.int .i64 js[k].rule) ∧ w.cell? ⟨b, off + k * 2 + 1, none⟩ = some (.slice xa js[k].tup.length xc) := by
  rcases h.row with ⟨b, off, cap, e, hi⟩ | ⟨rfl, _⟩
  · obtain ⟨xa, xc, hx⟩ := (h.tups _ (List.getElem_mem hk)).form
    obtain ⟨h0, h1⟩ := hi k hk
    exact ⟨b, off, cap, xa, xc, e, hx, h0, by rw [← hx]; exact h1⟩
  · simp at hk

/-- What the blocks of cells hold stays: all but maps. -/
def KeepsCells (w w' : World) : Prop := ∀ p u, w.cell? p = some u → w'.cell? p = some u
theorem KeepsCells.below {w w' : World} (h : Below w.heap.size w w') : KeepsCells w w' := fun p _ hp => (h.cell (p := p) (lt_of_cell hp)).trans hp
theorem KeepsCells.map {w w' : World} {m : Nat} {l : List (Int × Value)} (hm : IMap w m l) (ho : Only [m] w w') : KeepsCells w w' := fun p u hp => by
  obtain ⟨es, c, h1, _⟩ := hm
  refine (ho.cell (p := p) (lt_of_cell hp) (fun e => ?_)).trans hp
  simp only [List.mem_singleton] at e
  simp only [World.cell?, e, h1] at hp
  cases hp
theorem KeepsCells.trans {a b c : World} (h : KeepsCells a b) (k : KeepsCells b c) : KeepsCells a c := fun p u hp => k p u (h p u hp)
theorem NIs.keeps {w w' : World} {x : Value} {l : List Int} (h : NIs w x l) (hk : KeepsCells w w') : NIs w' x l := by
  obtain ⟨hl, ⟨b, off, cap, rfl, hi⟩ | h⟩ := h
  · exact ⟨hl, .inl ⟨b, off, cap, rfl, fun i hil => hk _ _ (hi i hil)⟩⟩
  · exact ⟨hl, .inr h⟩
theorem JsIs.keeps {w w' : World} {v : Value} {js : List Jc} (h : JsIs w v js) (hk : KeepsCells w w') : JsIs w' v js := by
  refine ⟨h.len, ?_, fun j hj => (h.tups j hj).keeps hk, h.cap⟩
  rcases h.row with ⟨b, off, cap, e, hi⟩ | q
  · exact .inl ⟨b, off, cap, e, fun i hil => ⟨hk _ _ (hi i hil).1, hk _ _ (hi i hil).2⟩⟩
  · exact .inr q

/-- Block b is a book; its map, block m, has the facts M. -/
structure BookIs (w : World) (b m : Nat) (M : List Sp) : Prop where
  blk : w.heap[b]? = some (.cells #[.map (some m)] 88 (0, 0))
  map : IMap w m (M.map Sp.pair)
  js : ∀ p ∈ M, JsIs w p.v p.js
  wf : ∀ p ∈ M, (Lit.int .i64 p.id).wf = true
  len : M.length ≤ 100000

theorem BookIs.below {w w' : World} {b m : Nat} {M : List Sp} (h : BookIs w b m M) (hb : Below w.heap.size w w') : BookIs w' b m M :=
  ⟨(hb.block b (lt_of_heap h.blk)).trans h.blk, h.map.only (Only.of_below hb []) (by simp), fun p hp => (h.js p hp).keeps (KeepsCells.below hb), h.wf, h.len⟩
theorem cells1b {w : World} {b : Nat} {x : Value} {t : TypeId} (h : w.heap[b]? = some (.cells #[x] t (0, 0))) : w.cell? ⟨b, 0, none⟩ = some x ∧ w.frozen? ⟨b, 0, none⟩ = false := by
  simp [World.cell?, World.frozen?, h]
theorem BookIs.ne {w : World} {b m : Nat} {M : List Sp} (h : BookIs w b m M) : b ≠ m := fun e => by
  obtain ⟨es, c, h1, _⟩ := h.map
  have := h.blk
  rw [e, h1] at this
  cases this

/-- The fact of an id. -/
def getS (M : List Sp) (id : Int) : Option Sp := M.find? fun p => p.id == id
/-- The fact of an id; none: nothing holds it up. -/
def getD (M : List Sp) (id : Int) : Sp := (getS M id).getD ⟨id, false, [], .slice none 0 0⟩
/-- A fact is laid. -/
def putS : List Sp → Sp → List Sp
  | [], q => [q]
  | p :: r, q => if p.id = q.id then q :: r else p :: putS r q
def dropS (M : List Sp) (id : Int) : List Sp := M.filter fun p => p.id != id

theorem look_get (M : List Sp) (id : Int) : look (M.map Sp.pair) id = (getS M id).map Sp.val := by
  induction M with
  | nil => rfl
  | cons p M ih =>
    unfold look getS at ih ⊢
    simp only [List.map_cons, List.find?_cons, Sp.pair]
    cases h : p.id == id with
    | true => rfl
    | false => exact ih
theorem look_getD (M : List Sp) (id : Int) : (look (M.map Sp.pair) id).getD (.agg #[.bool false, .slice none 0 0]) = (getD M id).val := by
  rw [look_get]
  unfold getD
  cases getS M id <;> rfl
theorem put_pairs (M : List Sp) (q : Sp) : put (M.map Sp.pair) q.id q.val = (putS M q).map Sp.pair := by
  induction M with
  | nil => rfl
  | cons p M ih =>
    unfold putS put
    simp only [List.map_cons]
    by_cases h : p.id = q.id
    · rw [if_pos h, if_pos (show p.pair.1 = q.id from h)]
      rfl
    · rw [if_neg h, if_neg (show ¬ p.pair.1 = q.id from h), List.map_cons, ← ih]
theorem drop_pairs (M : List Sp) (id : Int) : Go.Proofs.Ytmcajoccfbebiaa.drop (M.map Sp.pair) id = (dropS M id).map Sp.pair := by
  unfold Go.Proofs.Ytmcajoccfbebiaa.drop dropS
  rw [List.filter_map]
  rfl
theorem mem_putS {M : List Sp} {q p : Sp} (h : p ∈ putS M q) : p = q ∨ p ∈ M := by
  induction M with
  | nil => simpa [putS] using h
  | cons r M ih =>
    unfold putS at h
    split at h
    · rcases List.mem_cons.1 h with h | h
      · exact .inl h
      · exact .inr (.tail _ h)
    · rcases List.mem_cons.1 h with h | h
      · exact .inr (h ▸ .head _)
      · rcases ih h with h | h
        · exact .inl h
        · exact .inr (.tail _ h)
theorem putS_length (M : List Sp) (q : Sp) : (putS M q).length ≤ M.length + 1 := by
  induction M with
  | nil => simp [putS]
  | cons r M ih =>
    unfold putS
    split
    · simp
    · simp; exact ih
theorem getD_id (M : List Sp) (id : Int) : (getD M id).id = id := by
  unfold getD getS
  cases h : M.find? fun p => p.id == id with
  | none => rfl
  | some p => simpa using List.find?_some h
theorem BookIs.getD {w : World} {b m : Nat} {M : List Sp} (h : BookIs w b m M) (id : Int) : JsIs w (getD M id).v (getD M id).js := by
  unfold Go.Proofs.Ytmcajoccfbebiaa.getD getS
  cases e : M.find? fun p => p.id == id with
  | none => exact JsIs.nil w
  | some p => exact h.js p (List.mem_of_find?_eq_some e)

theorem zero_sup (w : World) : (zeroValue 90).run Try.prog w = .ok (.agg #[.bool false, .slice none 0 0]) w := by kernel_rfl

theorem field_p (w : World) (a b : Value) : (Instr.field 90 (.agg #[a, b]) 0).run Try.prog w = .ok a w := by kernel_rfl
theorem field_l (w : World) (a b : Value) : (Instr.field 90 (.agg #[a, b]) 1).run Try.prog w = .ok b w := by kernel_rfl

theorem none_nil (w : World) : Calls Try.prog 53 #[.pointer none] w fun e w' => e = .returned (.bool true) ∧ w = w' := by
  go_enter Try.func53, Try.ntmps53
  go_wp2
  go_ret
  exact ⟨rfl, rfl⟩
theorem none_some (b m : Nat) (w : World) (h2 : w.cell? ⟨b, 0, none⟩ = some (.map (some m))) : Calls Try.prog 53 #[.pointer (some ⟨b, 0, none⟩)] w fun e w' => e = .returned (.bool false) ∧ w = w' := by
  have hm : ∀ w : World, (binOp .eql 86 (.map (some m)) (.map none)).run Try.prog w = .ok (.bool false) w := fun w => run_eql_map_nil w _ _ _ (some m) Try.underlying86
  go_enter Try.func53, Try.ntmps53
  go_wp2
  go_ret
  exact ⟨rfl, rfl⟩

theorem new_any (w : World) : Calls Try.prog 26 #[] w fun e w' => ∃ b m, e = .returned (.pointer (some ⟨b, 0, none⟩)) ∧ BookIs w' b m [] ∧ Below w.heap.size w w' ∧ w.heap.size ≤ b ∧ w.heap.size ≤ m := by
  have hmm := @run_makeMap Try.prog
  go_enter Try.func26, Try.ntmps26
  go_wp2
  go_ret
  refine ⟨w.heap.size + 1, w.heap.size, rfl, ⟨?_, (IMap.new w).only ((Only.refl [] _).alloc _) (by simp), by simp, by simp, by simp⟩, ((Below.refl w.heap.size w).alloc (Nat.le_refl _) _).alloc (by simp) _, by omega, by omega⟩
  simpa using (MapKept.heap_alloc (w.alloc (.map #[] 0)) _).1

set_option maxRecDepth 100000 in
theorem isPlain_any (b m : Nat) (M : List Sp) (id : Int) (w : World) (h : BookIs w b m M) :
    Calls Try.prog 30 #[.pointer (some ⟨b, 0, none⟩), .int .i64 id] w fun e w' => e = .returned (.bool (getD M id).plain) ∧ w = w' := by
  have c0 := (cells1b h.blk).1
  have hlook := run_lookup1 (P := Try.prog) (t := 86) Try.underlying86 Try.underlying3 h.map (zero_sup _) id
  rw [look_getD] at hlook
  unfold Sp.val at hlook
  have hfp := field_p w
  clear h
  go_enter Try.func30, Try.ntmps30
  go_wp2_with (go_at_call 53; refine (none_some b m _ c0).mono ?_; rintro e w' ⟨rfl, rfl⟩)
  go_ret
  exact ⟨rfl, rfl⟩

/-- What a store into the map makes of the book. -/
theorem BookIs.store {w w1 : World} {b m : Nat} {M : List Sp} {q : Sp} (h : BookIs w b m M) (hm : IMap w1 m (put (M.map Sp.pair) q.id q.val)) (ho : Only [m] w w1) (hj : JsIs w q.v q.js) (hwf : (Lit.int .i64 q.id).wf = true) (hl : M.length < 100000) : BookIs w1 b m (putS M q) := by
  have hk := KeepsCells.map h.map ho
  refine ⟨(ho.block b (lt_of_heap h.blk) (by simpa using h.ne)).trans h.blk, by rw [← put_pairs]; exact hm, fun p hp => ?_, fun p hp => ?_, by have := putS_length M q; omega⟩
  · rcases mem_putS hp with rfl | hp
    · exact hj.keeps hk
    · exact (h.js p hp).keeps hk
  · rcases mem_putS hp with rfl | hp
    · exact hwf
    · exact h.wf p hp

set_option maxRecDepth 100000 in
set_option maxHeartbeats 400000 in
theorem plain_any (b m : Nat) (M : List Sp) (id : Int) (w : World) (h : BookIs w b m M) (hwf : (Lit.int .i64 id).wf = true) (hl : M.length < 100000) :
    Calls Try.prog 27 #[.pointer (some ⟨b, 0, none⟩), .int .i64 id] w fun e w' => e = .returned (.tuple #[]) ∧ BookIs w' b m (putS M ⟨id, true, (getD M id).js, (getD M id).v⟩) ∧ Only [m] w w' := by
  have c0 := (cells1b h.blk).1
  have oD : Below w.heap.size w w.drew := (Only.drew (Only.refl [] w)).below
  have hD := h.below oD
  have hlook := run_lookup1 (P := Try.prog) (t := 86) Try.underlying86 Try.underlying3 hD.map (zero_sup _) id
  rw [look_getD] at hlook
  unfold Sp.val at hlook
  obtain ⟨w1, hrun, hm1, ho1, hsz⟩ := run_mapUpdate (P := Try.prog) (t := 86) Try.underlying86 Try.underlying3 hD.map id (.agg #[.bool true, (getD M id).v])
  have HF := hide (hD.store (q := ⟨id, true, (getD M id).js, (getD M id).v⟩) hm1 ho1 (hD.getD id) hwf hl)
  have HO := hide ((Only.of_below oD [m]).trans ho1)
  obtain ⟨ga, gc, hgv⟩ := (h.getD id).form
  obtain ⟨gn, hgn⟩ : ∃ gn, (getD M id).js.length = gn := ⟨_, rfl⟩
  rw [hgn] at hgv
  obtain ⟨gp, hgp⟩ : ∃ gp, (getD M id).plain = gp := ⟨_, rfl⟩
  rw [hgv] at hlook hrun
  rw [hgp] at hlook
  have hfl := field_l w.drew
  clear h hD hm1 ho1 hsz hwf hl hgv hgn hgp oD
  go_enter Try.func27, Try.ntmps27
  go_wp2_with (go_at_call 53; refine (none_some b m _ c0).mono ?_; rintro e w' ⟨rfl, rfl⟩)
  go_region
  all_goals
    go_wp2
    go_end0
    exact ⟨rfl, HF.out, HO.out⟩
end Go.Proofs.Ytmcajoccfbebiaa
