/- General facts on worlds: which blocks a call may turn (Only); maps from int, entry by entry, in their order (IMap), their look-up, store, delete, length, and the walk over them (IIter). No program is named. -/
import Derived.WalkKit
import Derived.WalkLawsBesides
import Derived.WalkSpells
import Derived.Maps.RangeWalk
namespace Go.Proofs.Ytmcajoccfbebiaa
open Go Go.RowKit Go.MapKept

theorem hide {p : Prop} (h : p) : Hid p := h

/-- Of what lay in w only the blocks of S may have turned. -/
structure Only (S : List Nat) (w w' : World) : Prop where
  os : w'.os = w.os
  tape : w'.tape = w.tape
  output : w'.output = w.output
  size : w.heap.size ≤ w'.heap.size
  block : ∀ k, k < w.heap.size → k ∉ S → w'.heap[k]? = w.heap[k]?

theorem Only.refl (S : List Nat) (w : World) : Only S w w := ⟨rfl, rfl, rfl, Nat.le_refl _, fun _ _ _ => rfl⟩
theorem Only.step {S T : List Nat} {a b c : World} (h : Only S a b) (k : Only T b c) (hT : ∀ i ∈ T, i ∈ S ∨ a.heap.size ≤ i) : Only S a c :=
  ⟨k.os.trans h.os, k.tape.trans h.tape, k.output.trans h.output, Nat.le_trans h.size k.size, fun i hi hn =>
    (k.block i (Nat.lt_of_lt_of_le hi h.size) (fun hm => by rcases hT i hm with q | q; exact hn q; omega)).trans (h.block i hi hn)⟩
theorem Only.trans {S : List Nat} {a b c : World} (h : Only S a b) (k : Only S b c) : Only S a c := h.step k fun _ hi => .inl hi
theorem Only.mono {S T : List Nat} {a b : World} (h : Only S a b) (hs : ∀ i ∈ S, i ∈ T) : Only T a b :=
  ⟨h.os, h.tape, h.output, h.size, fun i hi hn => h.block i hi fun hm => hn (hs i hm)⟩
theorem Only.of_below {a b : World} (h : Below a.heap.size a b) (S : List Nat) : Only S a b := ⟨h.os, h.tape, h.output, h.size, fun i hi _ => h.block i hi⟩
theorem Only.below {a b : World} (h : Only [] a b) : Below a.heap.size a b := ⟨h.os, h.tape, h.output, h.size, fun i hi => h.block i hi (by simp)⟩
theorem Only.drew {S : List Nat} {a b : World} (h : Only S a b) : Only S a b.drew := ⟨h.os, h.tape, h.output, h.size, h.block⟩
theorem Only.drewN {S : List Nat} {a b : World} (h : Only S a b) (n : Nat) : Only S a (b.drewN n) := ⟨h.os, h.tape, h.output, h.size, h.block⟩
theorem Only.alloc {S : List Nat} {a b : World} (h : Only S a b) (o : Obj) : Only S a (b.alloc o) :=
  h.step (T := []) ⟨rfl, rfl, rfl, by simp, fun k hk _ => Below.heap_alloc _ _ _ hk⟩ (by simp)
theorem Only.setCell {S : List Nat} {a b : World} (h : Only S a b) {p : Addr} (hp : p.block ∈ S ∨ a.heap.size ≤ p.block) (u : Value) : Only S a (b.setCell p u) :=
  h.step (T := [p.block]) ⟨rfl, rfl, rfl, by simp [World.setCell], fun k _ hn => Below.heap_setCell _ _ _ _ (by simpa using hn)⟩ (by simpa using hp)
theorem Only.of_grown {a b : World} {row : Option Nat} (h : a.grownBy b row) (S : List Nat) (hr : ∀ k, row = some k → k ∈ S) : Only S a b :=
  ⟨h.os, h.tape, h.output, h.size, fun i hi hn => h.block i hi fun e => hn (hr i e.symm)⟩
theorem Only.cell {S : List Nat} {a b : World} (h : Only S a b) {p : Addr} (hp : p.block < a.heap.size) (hn : p.block ∉ S) : b.cell? p = a.cell? p := World.cell?_of_block (w := a) (h.block p.block hp hn)
theorem Only.frozen {S : List Nat} {a b : World} (h : Only S a b) {p : Addr} (hp : p.block < a.heap.size) (hn : p.block ∉ S) : b.frozen? p = a.frozen? p := World.frozen?_of_block (w := a) (h.block p.block hp hn)

theorem below_only {B : Nat} {a b c : World} {S : List Nat} (h : Below B a b) (k : Only S b c) (hS : ∀ i ∈ S, B ≤ i) (hB : B ≤ b.heap.size) : Below B a c :=
  h.trans ⟨k.os, k.tape, k.output, k.size, fun i hi => k.block i (by omega) fun hm => by have := hS i hm; omega⟩

theorem below_drewN {B : Nat} {a w : World} (h : Below B a w) (n : Nat) : Below B a (w.drewN n) := ⟨h.os, h.tape, h.output, h.size, h.block⟩

theorem lt_of_heap {w : World} {b : Nat} {o : Obj} (h : w.heap[b]? = some o) : b < w.heap.size := lt_of_block h
theorem lt_of_cell {w : World} {p : Addr} {v : Value} (h : w.cell? p = some v) : p.block < w.heap.size := by
  simp only [World.cell?] at h
  cases hb : w.heap[p.block]? with
  | none => simp [hb] at h
  | some o => exact lt_of_heap hb

theorem setCell_heap {w : World} {b i : Nat} {u : Value} {c : Array Value} {t : TypeId} {fz : Nat × Nat} (h : w.heap[b]? = some (.cells c t fz)) : (w.setCell ⟨b, i, none⟩ u).heap[b]? = some (.cells (c.setIfInBounds i u) t fz) := by
  simp [World.setCell, Array.getElem?_modify, h]

/-! ### maps from int -/

/-- Block b is a map from int; its entries, in the order in which they lie. -/
def IMap (w : World) (b : Nat) (l : List (Int × Value)) : Prop :=
  ∃ es clock, w.heap[b]? = some (.map es clock) ∧ Stamped es clock ∧ es.toList.map (fun e => (e.key, e.val)) = l.map (fun p => (Value.int .i64 p.1, p.2))

theorem IMap.of_block {w w' : World} {b : Nat} {l : List (Int × Value)} (h : IMap w b l) (he : w'.heap[b]? = w.heap[b]?) : IMap w' b l := by
  obtain ⟨es, c, h1, h2, h3⟩ := h
  exact ⟨es, c, he.trans h1, h2, h3⟩
theorem IMap.lt {w : World} {b : Nat} {l : List (Int × Value)} (h : IMap w b l) : b < w.heap.size := by
  obtain ⟨es, c, h1, _⟩ := h
  exact lt_of_heap h1
theorem IMap.only {w w' : World} {b : Nat} {l : List (Int × Value)} {S : List Nat} (h : IMap w b l) (ho : Only S w w') (hn : b ∉ S) : IMap w' b l := h.of_block (ho.block b h.lt hn)
theorem IMap.new (w : World) : IMap (w.alloc (.map #[] 0)) w.heap.size [] := ⟨#[], 0, (MapKept.heap_alloc w _).1, stamped_empty 0, rfl⟩

/-- What a look-up finds. -/
def look (l : List (Int × Value)) (k : Int) : Option Value := (l.find? (fun p => p.1 == k)).map (·.2)
/-- What a look-up with ok answers. -/
def looked (z : Value) : Option Value → Value
  | some v => .tuple #[v, .bool true]
  | none => .tuple #[z, .bool false]
/-- What a store makes of the entries. -/
def put : List (Int × Value) → Int → Value → List (Int × Value)
  | [], k, v => [(k, v)]
  | p :: r, k, v => if p.1 = k then (k, v) :: r else p :: put r k v
/-- What a delete leaves. -/
def drop (l : List (Int × Value)) (k : Int) : List (Int × Value) := l.filter (fun p => p.1 != k)

theorem IMap.size {l : List (Int × Value)} {es : Array MapEntry} (h : es.toList.map (fun e => (e.key, e.val)) = l.map (fun p => (Value.int .i64 p.1, p.2))) : es.size = l.length := by
  have := congrArg List.length h
  simpa using this

theorem entry_at {l : List (Int × Value)} {es : Array MapEntry} (h : es.toList.map (fun e => (e.key, e.val)) = l.map (fun p => (Value.int .i64 p.1, p.2))) {e : MapEntry} (he : e ∈ es.toList) : ∃ p ∈ l, e.key = .int .i64 p.1 ∧ e.val = p.2 := by
  have : (e.key, e.val) ∈ es.toList.map (fun e => (e.key, e.val)) := List.mem_map.2 ⟨e, he, rfl⟩
  rw [h] at this
  obtain ⟨p, hp, q⟩ := List.mem_map.1 this
  simp only [Prod.mk.injEq] at q
  exact ⟨p, hp, q.1.symm, q.2.symm⟩

theorem findNow_int (k : Int) : ∀ (es : List MapEntry) (l : List (Int × Value)) (i : Nat), es.map (fun e => (e.key, e.val)) = l.map (fun p => (Value.int .i64 p.1, p.2)) →
    Instr.findNow (.int .i64) (.int .i64 k) es i = some ((l.findIdx? (fun p => p.1 == k)).bind fun j => (l[j]?).map fun p => (i + j, p.2))
  | [], [], _, _ => rfl
  | [], _ :: _, _, h => by simp at h
  | _ :: _, [], _, h => by simp at h
  | e :: es, p :: l, i, h => by
    simp only [List.map_cons, List.cons.injEq, Prod.mk.injEq] at h
    obtain ⟨⟨h1, h2⟩, h3⟩ := h
    by_cases hk : p.1 = k
    · subst hk
      simp [Instr.findNow, h1, Instr.sameNow, h2, List.findIdx?_cons]
    · have hk' : ¬ k = p.1 := fun q => hk q.symm
      have hb : (k == p.1) = false := by simpa using hk'
      have hb2 : (p.1 == k) = false := by simpa using hk
      rw [show Instr.findNow (.int .i64) (.int .i64 k) (e :: es) i = Instr.findNow (.int .i64) (.int .i64 k) es (i + 1) from by simp [Instr.findNow, h1, Instr.sameNow, hb], findNow_int k es l (i + 1) h3]
      simp only [List.findIdx?_cons, hb2]
      cases l.findIdx? (fun p => p.1 == k) with
      | none => simp
      | some j => simp [Nat.add_assoc, Nat.add_comm 1]

theorem look_idx (l : List (Int × Value)) (k : Int) : look l k = (l.findIdx? (fun p => p.1 == k)).bind fun j => (l[j]?).map (·.2) := by
  induction l with
  | nil => rfl
  | cons p l ih =>
    unfold look at ih ⊢
    by_cases hk : p.1 = k
    · simp [hk, List.findIdx?_cons]
    · have hb2 : (p.1 == k) = false := by simpa using hk
      simp only [List.find?_cons, hb2, List.findIdx?_cons, ih]
      cases l.findIdx? (fun p => p.1 == k) <;> simp

section
variable {P : Program} {w : World} {t kt et : TypeId} {b : Nat} {l : List (Int × Value)}

theorem IMap.keys {es : Array MapEntry} (h3 : es.toList.map (fun e => (e.key, e.val)) = l.map (fun p => (Value.int .i64 p.1, p.2))) : ∀ x ∈ es.toList, IsKey (.int .i64) x.key := by
  intro x hx
  obtain ⟨p, _, hk, _⟩ := entry_at h3 hx
  rw [hk]
  rfl

theorem run_lookup (ht : P.underlying t = some (.map kt et)) (hk : P.underlying kt = some (.int .i64)) (h : IMap w b l) {z : Value} (hz : (zeroValue et).run P w = .ok z w) (k : Int) :
    (Instr.lookup t (.map (some b)) (.int .i64 k) true).run P w = .ok (looked z (look l k)) w := by
  obtain ⟨es, c, h1, h2, h3⟩ := h
  have hf := run_findKey (P := P) (w := w) hk (findNow_int k es.toList l 0 h3)
  rw [look_idx]
  simp only [Instr.lookup, Sem.run_bind, run_underlying ht, MapKept.run_getObj_map h1, Result.andThen_ok, Sem.run_pure, run_checkKey (k := .int .i64 k) hk rfl, hf]
  cases hi : l.findIdx? (fun p => p.1 == k) with
  | none => simp [hz, looked]
  | some j =>
    have hj := (List.findIdx?_eq_some_iff_getElem.1 hi).1
    simp [List.getElem?_eq_getElem hj, looked]

theorem run_lookup1 (ht : P.underlying t = some (.map kt et)) (hk : P.underlying kt = some (.int .i64)) (h : IMap w b l) {z : Value} (hz : (zeroValue et).run P w = .ok z w) (k : Int) :
    (Instr.lookup t (.map (some b)) (.int .i64 k) false).run P w = .ok ((look l k).getD z) w := by
  obtain ⟨es, c, h1, h2, h3⟩ := h
  have hf := run_findKey (P := P) (w := w) hk (findNow_int k es.toList l 0 h3)
  rw [look_idx]
  simp only [Instr.lookup, Sem.run_bind, run_underlying ht, MapKept.run_getObj_map h1, Result.andThen_ok, Sem.run_pure, run_checkKey (k := .int .i64 k) hk rfl, hf]
  cases hi : l.findIdx? (fun p => p.1 == k) with
  | none => simp [hz]
  | some j =>
    have hj := (List.findIdx?_eq_some_iff_getElem.1 hi).1
    simp [List.getElem?_eq_getElem hj]

theorem put_eq (l : List (Int × Value)) (k : Int) (v : Value) : put l k v = match l.findIdx? (fun p => p.1 == k) with | some j => l.set j (k, v) | none => l ++ [(k, v)] := by
  induction l with
  | nil => rfl
  | cons p l ih =>
    unfold put
    by_cases hk : p.1 = k
    · simp [hk, List.findIdx?_cons]
    · have hb2 : (p.1 == k) = false := by simpa using hk
      rw [if_neg hk, ih]
      simp only [List.findIdx?_cons, hb2]
      cases l.findIdx? (fun p => p.1 == k) <;> simp

theorem run_mapUpdate (ht : P.underlying t = some (.map kt et)) (hk : P.underlying kt = some (.int .i64)) (h : IMap w b l) (k : Int) (v : Value) :
    ∃ w', (Instr.mapUpdate t (.map (some b)) (.int .i64 k) v).run P w = .ok () w' ∧ IMap w' b (put l k v) ∧ Only [b] w w' ∧ w'.heap.size = w.heap.size := by
  obtain ⟨es, c, h1, h2, h3⟩ := h
  have hfn := findNow_int k es.toList l 0 h3
  have hf := run_findKey (P := P) (w := w) hk hfn
  have hks : ∀ x ∈ es.toList, IsKey (.int .i64) x.key := IMap.keys h3
  have hlt := lt_of_heap h1
  rw [put_eq]
  have honly : ∀ o, Only [b] w { w with heap := w.heap.setIfInBounds b o } := fun o => ⟨rfl, rfl, rfl, by simp, fun i _ hn => by
    have : b ≠ i := fun e => hn (by simp [e])
    simp [this]⟩
  cases hi : l.findIdx? (fun p => p.1 == k) with
  | none =>
    rw [hi] at hf hfn
    refine ⟨{ w with heap := w.heap.setIfInBounds b (.map (es.push { key := .int .i64 k, val := v, born := c }) (c + 1)) }, ?_, ?_, honly _, by simp⟩
    · simp only [Instr.mapUpdate, Sem.run_bind, run_underlying ht, MapKept.run_getObj_map h1, Result.andThen_ok, run_checkKey (k := .int .i64 k) hk rfl, hf, Option.bind_none, MapKept.run_setObj_map _ h1]
    · refine ⟨_, _, (heap_set h1).1, stamped_push h2 ?_, ?_⟩
      · intro x hx hxk
        obtain ⟨p, hp, q, _⟩ := entry_at h3 hx
        rw [hxk] at q
        cases q
        have := List.findIdx?_eq_none_iff.1 hi p hp
        simp at this
      · simp [h3]
  | some j =>
    have hjl := (List.findIdx?_eq_some_iff_getElem.1 hi)
    obtain ⟨hj, hjk, _⟩ := hjl
    have hjk' : (l[j]).1 = k := by simpa using hjk
    rw [hi] at hf hfn
    simp only [Option.bind_some, List.getElem?_eq_getElem hj, Option.map_some, Nat.zero_add] at hf hfn
    have hsz : es.size = l.length := IMap.size h3
    have hje : j < es.size := by omega
    have hkey : es[j].key = .int .i64 k ∧ es[j].val = l[j].2 := by
      have := congrArg (fun q => q[j]?) h3
      simp only [List.getElem?_map, Array.getElem?_toList, Array.getElem?_eq_getElem hje, List.getElem?_eq_getElem hj, Option.map_some, Option.some.injEq, Prod.mk.injEq] at this
      exact ⟨this.1.trans (by rw [hjk']), this.2⟩
    refine ⟨{ w with heap := w.heap.setIfInBounds b (.map (es.modify j fun e => { e with key := .int .i64 k, val := v }) c) }, ?_, ?_, honly _, by simp⟩
    · simp only [Instr.mapUpdate, Sem.run_bind, run_underlying ht, MapKept.run_getObj_map h1, Result.andThen_ok, run_checkKey (k := .int .i64 k) hk rfl, hf, Array.getElem?_eq_getElem hje, Option.map_some, Option.getD_some, hkey.1, run_keyThatStays (d := .int .i64) (k := .int .i64 k) rfl, MapKept.run_setObj_map _ h1]
    · refine ⟨_, _, (heap_set h1).1, stamped_modify h2 _ _ (fun _ _ => rfl) (fun e' _ he' => ?_), ?_⟩
      · rw [Array.getElem?_eq_getElem hje] at he'
        cases he'
        exact hkey.1.symm
      · apply List.ext_getElem?
        intro i
        simp only [List.getElem?_map, Array.getElem?_toList, Array.getElem?_modify, List.getElem?_set]
        have h3i := congrArg (fun q => q[i]?) h3
        simp only [List.getElem?_map, Array.getElem?_toList] at h3i
        by_cases hij : j = i
        · subst hij
          simp [hj, Array.getElem?_eq_getElem hje]
        · simp [hij, h3i]

theorem IMap.nodup {w : World} {b : Nat} {l : List (Int × Value)} (h : IMap w b l) : (l.map (·.1)).Nodup := by
  obtain ⟨es, c, _, ⟨_, _, hn⟩, h3⟩ := h
  have : es.toList.map (·.key) = (l.map (·.1)).map (fun k => Value.int .i64 k) := by
    have := congrArg (List.map (·.1)) h3
    simpa [List.map_map, Function.comp_def] using this
  rw [this] at hn
  rw [List.Nodup, List.pairwise_map] at hn
  exact hn.imp fun h e => h (by rw [e])

theorem drop_idx {l : List (Int × Value)} (hn : (l.map (·.1)).Nodup) (k : Int) : drop l k = match l.findIdx? (fun p => p.1 == k) with | some j => l.eraseIdx j | none => l := by
  induction l with
  | nil => rfl
  | cons p l ih =>
    simp only [List.map_cons, List.nodup_cons] at hn
    unfold drop at ih ⊢
    by_cases hk : p.1 = k
    · subst hk
      have hb2 : (p.1 == p.1) = true := by simp
      simp only [List.findIdx?_cons, hb2, List.filter_cons]
      simp only [bne_self_eq_false, Bool.false_eq_true, if_false, if_true, List.eraseIdx_zero, List.tail_cons]
      refine List.filter_eq_self.2 fun q hq => ?_
      have : q.1 ≠ p.1 := fun e => hn.1 (e ▸ List.mem_map.2 ⟨q, hq, rfl⟩)
      simpa using this
    · have hb2 : (p.1 == k) = false := by simpa using hk
      have hb3 : (p.1 != k) = true := by simpa using hk
      simp only [List.filter_cons, hb3, if_true, List.findIdx?_cons, hb2, ih hn.2]
      cases l.findIdx? (fun p => p.1 == k) <;> simp

theorem map_eraseIdx {α β : Type} (f : α → β) : ∀ (l : List α) (j : Nat), (l.eraseIdx j).map f = (l.map f).eraseIdx j
  | [], _ => rfl
  | _ :: _, 0 => rfl
  | a :: l, j + 1 => by simp [map_eraseIdx f l j]

theorem filter_map_two {α β γ : Type} (f : α → γ) (g : β → γ) (p : α → Bool) (q : β → Bool) : ∀ (L : List α) (M : List β), L.map f = M.map g → (∀ x ∈ L, ∀ y ∈ M, f x = g y → p x = q y) → (L.filter p).map f = (M.filter q).map g
  | [], [], _, _ => rfl
  | [], _ :: _, h, _ => by simp at h
  | _ :: _, [], h, _ => by simp at h
  | x :: L, y :: M, h, hpq => by
    simp only [List.map_cons, List.cons.injEq] at h
    have ih := filter_map_two f g p q L M h.2 (fun a ha b hb => hpq a (.tail _ ha) b (.tail _ hb))
    have e := hpq x (.head _) y (.head _) h.1
    by_cases hp : p x = true
    · have hq : q y = true := e ▸ hp
      simp [hp, hq, h.1, ih]
    · have hp' : p x = false := by simpa using hp
      have hq : q y = false := e ▸ hp'
      simp [hp', hq, ih]

theorem run_delete (ht : P.underlying t = some (.map kt et)) (hk : P.underlying kt = some (.int .i64)) (h : IMap w b l) (k : Int) :
    ∃ w', (∀ ty, (Builtin.delete_ #[t, kt] ty #[.map (some b), .int .i64 k]).run P w = .ok (.tuple #[]) w') ∧ IMap w' b (drop l k) ∧ Only [b] w w' ∧ w'.heap.size = w.heap.size := by
  have hnd := h.nodup
  obtain ⟨es, c, h1, h2, h3⟩ := h
  have hf := run_findKey (P := P) (w := w) hk (findNow_int k es.toList l 0 h3)
  have honly : ∀ o, Only [b] w { w with heap := w.heap.setIfInBounds b o } := fun o => ⟨rfl, rfl, rfl, by simp, fun i _ hn => by
    have : b ≠ i := fun e => hn (by simp [e])
    simp [this]⟩
  rw [drop_idx hnd]
  cases hi : l.findIdx? (fun p => p.1 == k) with
  | none =>
    rw [hi] at hf
    refine ⟨{ w with heap := w.heap.setIfInBounds b (.map es c) }, ?_, ⟨es, c, (heap_set h1).1, h2, h3⟩, honly _, by simp⟩
    simp only [Option.bind_none] at hf
    intro ty
    simp [Builtin.delete_, run_underlying ht, MapKept.run_getObj_map h1, run_checkKey (k := .int .i64 k) hk rfl, hf, MapKept.run_setObj_map _ h1]
  | some j =>
    have hj := (List.findIdx?_eq_some_iff_getElem.1 hi).1
    rw [hi] at hf
    simp only [Option.bind_some, List.getElem?_eq_getElem hj, Option.map_some, Nat.zero_add] at hf
    have hsz : es.size = l.length := IMap.size h3
    have hje : j < es.size := by omega
    refine ⟨{ w with heap := w.heap.setIfInBounds b (.map (es.eraseIdxIfInBounds j) c) }, ?_, ⟨_, c, (heap_set h1).1, stamped_erase h2 j, ?_⟩, honly _, by simp⟩
    · intro ty
      simp [Builtin.delete_, run_underlying ht, MapKept.run_getObj_map h1, run_checkKey (k := .int .i64 k) hk rfl, hf, MapKept.run_setObj_map _ h1]
    · unfold Array.eraseIdxIfInBounds
      rw [dif_pos hje, Array.toList_eraseIdx, map_eraseIdx, h3, map_eraseIdx]

theorem run_len_map (ht : P.underlying t = some (.map kt et)) (h : IMap w b l) (ty : TypeId) : (Builtin.len_ #[t] ty #[.map (some b)]).run P w = .ok (.int .i64 (l.length : Int)) w := by
  obtain ⟨es, c, h1, h2, h3⟩ := h
  have := IMap.size h3
  simp [Builtin.len_, run_underlying ht, MapKept.run_getObj_map h1, goInt, this]

/-- A walk over the map in block b, by the iterator in block r; what is still to come. -/
def IIter (w : World) (b r : Nat) (l left : List (Int × Value)) : Prop :=
  ∃ es clock since seen c0, w.heap[b]? = some (.map es clock) ∧ Stamped es clock ∧ es.toList.map (fun e => (e.key, e.val)) = l.map (fun p => (Value.int .i64 p.1, p.2)) ∧
    w.heap[r]? = some (.mapIter (some b) since seen c0) ∧ (∀ x ∈ es.toList, x.born < since) ∧ since ≤ c0 ∧ since ≤ clock ∧ (leftOf es seen).toList.map (fun e => (e.key, e.val)) = left.map (fun p => (Value.int .i64 p.1, p.2))

theorem IIter.map {r : Nat} {left : List (Int × Value)} (h : IIter w b r l left) : IMap w b l := by
  obtain ⟨es, c, _, _, _, h1, h2, h3, _⟩ := h
  exact ⟨es, c, h1, h2, h3⟩
theorem IIter.lt {r : Nat} {left : List (Int × Value)} (h : IIter w b r l left) : r < w.heap.size := by
  obtain ⟨_, _, _, _, _, _, _, _, h4, _⟩ := h
  exact lt_of_heap h4
theorem IIter.only {w' : World} {r : Nat} {left : List (Int × Value)} {S : List Nat} (h : IIter w b r l left) (ho : Only S w w') (hb : b ∉ S) (hr : r ∉ S) : IIter w' b r l left := by
  have h1 := h.map.lt
  have h2 := h.lt
  obtain ⟨es, c, s, seen, c0, g1, g2, g3, g4, g5⟩ := h
  exact ⟨es, c, s, seen, c0, (ho.block b h1 hb).trans g1, g2, g3, (ho.block r h2 hr).trans g4, g5⟩

theorem run_range (ht : P.underlying t = some (.map kt et)) (h : IMap w b l) :
    ∃ w', (Instr.range t (.map (some b))).run P w = .ok (.pointer (some ⟨w.heap.size, 0, none⟩)) w' ∧ IIter w' b w.heap.size l l ∧ Only [] w w' ∧ w'.heap.size = w.heap.size + 1 := by
  have hlt := h.lt
  obtain ⟨es, c, h1, h2, h3⟩ := h
  refine ⟨_, run_range_map w t kt et b es c ht h1, ⟨es, c, c, #[], c, ((MapKept.heap_alloc w _).2 b hlt).trans h1, h2, h3, (MapKept.heap_alloc w _).1, h2.1, Nat.le_refl _, Nat.le_refl _, ?_⟩, (Only.refl _ _).alloc _, by simp⟩
  rw [← h3]
  congr 1
  simp [leftOf]

theorem run_next {r : Nat} {left : List (Int × Value)} (h : IIter w b r l left) :
    (left = [] ∧ ∀ ty, (Instr.next (.pointer (some ⟨r, 0, none⟩)) false ty).run P w = .ok (.tuple #[.bool false]) w) ∨
    ∃ p ∈ left, ∃ w', (∀ ty, (Instr.next (.pointer (some ⟨r, 0, none⟩)) false ty).run P w = .ok (.tuple #[.bool true, .int .i64 p.1, p.2]) w') ∧ p ∈ l ∧
      IIter w' b r l (drop left p.1) ∧ (drop left p.1).length < left.length ∧ Only [r] w w' ∧ w'.heap.size = w.heap.size ∧ (Instr.entry (.pointer (some ⟨r, 0, none⟩))).run P w' = .ok (.tuple #[.int .i64 p.1, p.2]) w' := by
  obtain ⟨es, clock, since, seen, c0, h1, h2, h3, h4, h5, h6, h8, h7⟩ := h
  have hlt := lt_of_heap h4
  have hne : r ≠ b := by rintro rfl; rw [h1] at h4; cases h4
  rcases run_next_at (P := P) w 0 r b since c0 seen es clock h4 h1 h5 h6 with ⟨hz, hrun⟩ | ⟨e, he, w1, hw1, hrun⟩
  · left
    refine ⟨?_, fun _ => hrun⟩
    have := congrArg List.length h7
    simp only [List.length_map, Array.length_toList, hz] at this
    exact List.eq_nil_of_length_eq_zero this.symm
  · right
    have hem : (e.key, e.val) ∈ (leftOf es seen).toList.map (fun e => (e.key, e.val)) := List.mem_map.2 ⟨e, he, rfl⟩
    rw [h7] at hem
    obtain ⟨p, hp, hpe⟩ := List.mem_map.1 hem
    simp only [Prod.mk.injEq] at hpe
    obtain ⟨hk, hv⟩ := hpe
    have hes : e ∈ es.toList := by
      have : e ∈ leftOf es seen := by simpa using he
      simp only [leftOf, Array.mem_filter] at this
      simpa using this.1
    have hpl : p ∈ l := by
      obtain ⟨q, hq, hqk, hqv⟩ := entry_at h3 hes
      rw [← hk] at hqk
      have e1 : p.1 = q.1 := by injection hqk
      rw [← hv] at hqv
      have : p = q := Prod.ext e1 hqv
      exact this ▸ hq
    have hw1h : w1.heap = w.heap := by rcases hw1 with rfl | rfl <;> rfl
    have hnk := h2.2.2
    have hnb := h2.2.1
    have hin : ∀ x ∈ es.toList, (x.key = e.key ↔ x.born = e.born) := by
      intro x hx
      constructor
      · intro hxk
        exact congrArg MapEntry.born (entry_eq_of_key ((stamped_iff es clock).1 h2).2.2 hx hes hxk)
      · intro hxb
        rw [born_inj hnb hx hes hxb]
    have hleft : (leftOf es (seen.push e.born)).toList.map (fun e => (e.key, e.val)) = (drop left p.1).map (fun p => (Value.int .i64 p.1, p.2)) := by
      have e1 : (leftOf es (seen.push e.born)).toList = (leftOf es seen).toList.filter (fun x => x.born != e.born) := by
        simp only [leftOf, Array.toList_filter, List.filter_filter]
        refine List.filter_congr fun x _ => ?_
        by_cases hb : x.born = e.born
        · simp [hb]
        · simp [hb]
      rw [e1]
      refine filter_map_two _ _ _ _ _ _ h7 fun x hx y _ hxy => ?_
      simp only [Prod.mk.injEq] at hxy
      have hxe : x ∈ es.toList := by
        have : x ∈ leftOf es seen := by simpa using hx
        simp only [leftOf, Array.mem_filter] at this
        simpa using this.1
      have hq := hin x hxe
      rw [← hk, hxy.1] at hq
      by_cases hb : x.born = e.born
      · have : y.1 = p.1 := by injection hq.2 hb
        simp [hb, this]
      · have h1 : (x.born != e.born) = true := by simpa using hb
        have h2 : (y.1 != p.1) = true := by simpa using fun q => hb (hq.1 (by rw [q]))
        exact h1.trans h2.symm
    have hr' : (ChangeMaps.setBlock w1 r (.mapIter (some b) since (seen.push e.born) clock)).heap[r]? = some (.mapIter (some b) since (seen.push e.born) clock) := by
      simp [ChangeMaps.setBlock, hw1h, hlt]
    have hb' : (ChangeMaps.setBlock w1 r (.mapIter (some b) since (seen.push e.born) clock)).heap[b]? = some (.map es clock) := by
      simp [ChangeMaps.setBlock, hw1h, hne, h1]
    rw [← hk, ← hv] at hrun
    refine ⟨p, hp, _, fun _ => hrun, hpl, ⟨es, clock, since, seen.push e.born, clock, hb', h2, h3, hr', h5, h8, h8, hleft⟩, ?_, ?_, ?_, ?_⟩
    · unfold drop
      refine Nat.lt_of_le_of_ne (List.length_filter_le _ _) fun h => ?_
      have := List.length_filter_eq_length_iff.1 h p hp
      simp at this
    · refine ⟨?_, ?_, ?_, by simp [ChangeMaps.setBlock, hw1h], fun k _ hn => ?_⟩
      · rcases hw1 with rfl | rfl <;> rfl
      · rcases hw1 with rfl | rfl <;> rfl
      · rcases hw1 with rfl | rfl <;> rfl
      · have : r ≠ k := fun e => hn (by simp [e])
        simp [ChangeMaps.setBlock, hw1h, this]
    · simp [ChangeMaps.setBlock, hw1h]
    · have := run_entry_at (P := P) _ r b since seen es clock e hr' hb' hes hnb
      rw [this, ← hk, ← hv]

theorem IIter.left_eq {r : Nat} {left : List (Int × Value)} (h : IIter w b r l left) : w.rangeLeft b r = left.length := by
  obtain ⟨es, c, s, seen, c0, g1, _, _, g4, _, _, _, g5⟩ := h
  simp only [World.rangeLeft, g1, g4]
  have := congrArg List.length g5
  simpa using this
end

theorem pairwise_cases {α : Type} {R : α → α → Prop} : ∀ {l : List α}, l.Pairwise R → ∀ {a b : α}, a ∈ l → b ∈ l → a = b ∨ R a b ∨ R b a
  | [], _, _, _, h, _ => by simp at h
  | x :: l, hp, a, b, ha, hb => by
    rw [List.pairwise_cons] at hp
    rcases List.mem_cons.1 ha with rfl | ha'
    · rcases List.mem_cons.1 hb with rfl | hb'
      · exact .inl rfl
      · exact .inr (.inl (hp.1 _ hb'))
    · rcases List.mem_cons.1 hb with rfl | hb'
      · exact .inr (.inr (hp.1 _ ha'))
      · exact pairwise_cases hp.2 ha' hb'
end Go.Proofs.Ytmcajoccfbebiaa
