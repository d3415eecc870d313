/- Both memories: what Add, Remove, Get answer hangs on what the facts say; their blocks are apart. -/
import Derived.Test.YteealadflekffaaOF
import Derived.Test.YteealadflekffaaRM4
namespace Go.Proofs.Yteealadflekffaa
open Go Go.RowKit Go.MapKept

/-- The two say the same. -/
structure Alike (M G : Mm) : Prop where
  lim : M.limit = G.limit
  last : M.last = G.last
  l : M.l.map Fc.say = G.l.map Fc.say
theorem Alike.len {M G : Mm} (h : Alike M G) : M.l.length = G.l.length := by
  have := congrArg List.length h.l
  simpa using this
theorem Alike.symm {M G : Mm} (h : Alike M G) : Alike G M := ⟨h.lim.symm, h.last.symm, h.l.symm⟩
theorem find_say {p : Int × Int × List Vl → Bool} : ∀ {l m : List Fc}, l.map Fc.say = m.map Fc.say → (l.find? fun f => p f.say).map Fc.say = (m.find? fun f => p f.say).map Fc.say
  | [], [], _ => rfl
  | [], _ :: _, h => by simp at h
  | _ :: _, [], h => by simp at h
  | f :: l, g :: m, h => by
    simp only [List.map_cons, List.cons.injEq] at h
    simp only [List.find?_cons, h.1]
    cases p g.say with
    | true => simp [h.1]
    | false => exact find_say h.2
theorem filter_say {p : Int × Int × List Vl → Bool} : ∀ {l m : List Fc}, l.map Fc.say = m.map Fc.say → (l.filter fun f => p f.say).map Fc.say = (m.filter fun f => p f.say).map Fc.say
  | [], [], _ => rfl
  | [], _ :: _, h => by simp at h
  | _ :: _, [], h => by simp at h
  | f :: l, g :: m, h => by
    simp only [List.map_cons, List.cons.injEq] at h
    simp only [List.filter_cons, h.1]
    cases p g.say with
    | true => simp [h.1, filter_say h.2]
    | false => simpa using filter_say h.2
theorem Alike.hit {M G : Mm} (h : Alike M G) (t : Int) (s : List Vl) : (M.hit t s).map Fc.say = (G.hit t s).map Fc.say := find_say (p := fun y => decide (y.2.1 = t ∧ y.2.2 = s)) h.l
theorem Alike.find {M G : Mm} (h : Alike M G) (t : Int) (s : List Vl) : M.find t s = G.find t s := by
  have := h.hit t s
  unfold Mm.find
  cases h1 : M.hit t s <;> cases h2 : G.hit t s <;> rw [h1, h2] at this <;> simp at this
  exact congrArg (·.1) this
theorem Alike.del {M G : Mm} (h : Alike M G) (id : Int) : Alike (M.del id) (G.del id) := ⟨h.lim, h.last, filter_say (p := fun y => y.1 != id) h.l⟩
theorem Alike.add {M G : Mm} (h : Alike M G) (t : Int) (s : List Vl) (x y : Value) : Alike (M.add t s x) (G.add t s y) := ⟨h.lim, by simp [Mm.add, h.last], by simp [Mm.add, h.l, Fc.say, h.last]⟩

/-- What Add makes of it, and answers. -/
def AddTo (M : Mm) (t : Int) (s : List Vl) (M' : Mm) (id : Int) (fr : Bool) (er : Int) : Prop :=
  (∃ f, M.hit t s = some f ∧ M' = M ∧ id = f.id ∧ fr = false ∧ er = 0) ∨ (M.hit t s = none ∧ (M.l.length : Int) = M.limit ∧ M' = M ∧ id = 0 ∧ fr = false ∧ er = 7) ∨
  (M.hit t s = none ∧ (M.l.length : Int) < M.limit ∧ (∃ x, M' = M.add t s x) ∧ id = M.last + 1 ∧ fr = true ∧ er = 0)
theorem AddTo.alike {M G M' G' : Mm} {t id id' er er' : Int} {s : List Vl} {fr fr' : Bool} (h : Alike M G) (a : AddTo M t s M' id fr er) (b : AddTo G t s G' id' fr' er') : Alike M' G' ∧ id = id' ∧ fr = fr' ∧ er = er' := by
  have hh := h.hit t s
  have hl := h.len
  have h1 := h.lim
  have h2 := h.last
  rcases a with ⟨f, a1, rfl, rfl, rfl, rfl⟩ | ⟨a1, a2, rfl, rfl, rfl, rfl⟩ | ⟨a1, a2, ⟨x, rfl⟩, rfl, rfl, rfl⟩ <;> rcases b with ⟨g, b1, rfl, rfl, rfl, rfl⟩ | ⟨b1, b2, rfl, rfl, rfl, rfl⟩ | ⟨b1, b2, ⟨y, rfl⟩, rfl, rfl, rfl⟩ <;> rw [a1, b1] at hh <;> simp at hh
  · exact ⟨h, congrArg (·.1) hh, rfl, rfl⟩
  · exact ⟨h, rfl, rfl, rfl⟩
  · omega
  · omega
  · exact ⟨h.add t s x y, by omega, rfl, rfl⟩
theorem AddTo.ok {M M' : Mm} {t id er : Int} {s : List Vl} {fr : Bool} (h : MemOk M) (a : AddTo M t s M' id fr er) : MemOk M' ∧ M'.last ≤ M.last + 1 := by
  rcases a with ⟨f, a1, rfl, _⟩ | ⟨a1, a2, rfl, _⟩ | ⟨a1, a2, ⟨x, rfl⟩, _⟩
  · exact ⟨h, by omega⟩
  · exact ⟨h, by omega⟩
  · exact ⟨h.add a1 a2 x, by simp [Mm.add]⟩

/-- What Get, Remove answer. -/
def Got (M : Mm) (id i t : Int) (s : List Vl) (ok : Bool) : Prop :=
  (∃ f ∈ M.l, f.id = id ∧ i = f.id ∧ t = f.t ∧ s = f.s ∧ ok = true) ∨ ((∀ f ∈ M.l, f.id ≠ id) ∧ i = 0 ∧ t = 0 ∧ s = [] ∧ ok = false)
theorem Alike.mem {M G : Mm} (h : Alike M G) {f : Fc} (hf : f ∈ M.l) : ∃ g ∈ G.l, g.say = f.say := by
  have : f.say ∈ M.l.map Fc.say := List.mem_map_of_mem hf
  rw [h.l, List.mem_map] at this
  exact this
theorem Got.alike {M G : Mm} {id i t i' t' : Int} {s s' : List Vl} {ok ok' : Bool} (hG : MemOk G) (h : Alike M G) (a : Got M id i t s ok) (b : Got G id i' t' s' ok') : i = i' ∧ t = t' ∧ s = s' ∧ ok = ok' := by
  rcases a with ⟨f, hf, a1, rfl, rfl, rfl, rfl⟩ | ⟨a1, rfl, rfl, rfl, rfl⟩
  · obtain ⟨g', hg', e⟩ := h.mem hf
    simp only [Fc.say, Prod.mk.injEq] at e
    rcases b with ⟨g, hg, b1, rfl, rfl, rfl, rfl⟩ | ⟨b1, _⟩
    · have hgg : g' = g := by
        rcases pairwise_cases hG.ids hg' hg with q | q | q
        · exact q
        · omega
        · omega
      subst hgg
      exact ⟨e.1.symm, e.2.1.symm, e.2.2.symm, rfl⟩
    · exact absurd (e.1.trans a1) (b1 g' hg')
  · rcases b with ⟨g, hg, b1, rfl, rfl, rfl, rfl⟩ | ⟨b1, rfl, rfl, rfl, rfl⟩
    · obtain ⟨f, hf, e⟩ := h.symm.mem hg
      simp only [Fc.say, Prod.mk.injEq] at e
      exact absurd (e.1.trans b1) (a1 f hf)
    · exact ⟨rfl, rfl, rfl, rfl⟩
theorem del_none {M : Mm} {id : Int} (h : ∀ f ∈ M.l, f.id ≠ id) : M.del id = M := by
  unfold Mm.del
  rw [List.filter_eq_self.2 fun f hf => by simpa using h f hf]

/-- Add of the memory, whatever comes. -/
theorem madd_all (b mm : Nat) (M : Mm) (hM : MemOk M) (hlast : M.last < 1000000000) (t : Int) (x : Value) (s : List Vl) (w : World) (h : MemIs w b mm M) (hx : SlIs w x s) :
    Calls Try.prog 11 #[.pointer (some ⟨b, 0, none⟩), .int .i64 t, x] w fun e w' => ∃ M' id fr er, e = .returned (.tuple #[.int .i64 id, .bool fr, .int .i64 er]) ∧ AddTo M t s M' id fr er ∧ MemIs w' b mm M' ∧ Only [b, mm] w w' ∧ (∀ k, MFoot b mm M' k → MFoot b mm M k ∨ w.heap.size ≤ k) := by
  cases hh : M.hit t s with
  | some f =>
    obtain ⟨hf, rfl, rfl⟩ := Mm.hit_some hh
    refine (add_old b mm M hM f hf x w h hx).mono ?_
    rintro e w' ⟨rfl, hb⟩
    exact ⟨M, _, _, _, rfl, .inl ⟨f, hh, rfl, rfl, rfl, rfl⟩, h.below hb, Only.of_below hb _, fun k hk => .inl hk⟩
  | none =>
    by_cases hl : (M.l.length : Int) = M.limit
    · refine (add_full b mm M hM t s hh hl x w h hx).mono ?_
      rintro e w' ⟨rfl, hb⟩
      exact ⟨M, _, _, _, rfl, .inr (.inl ⟨hh, hl, rfl, rfl, rfl, rfl⟩), h.below hb, Only.of_below hb _, fun k hk => .inl hk⟩
    · have hl2 : (M.l.length : Int) < M.limit := by have := hM.len; omega
      refine (add_new b mm M hM t s hh hl2 hlast x w h hx).mono ?_
      rintro e w' ⟨v, rfl, hm, hfr, ho⟩
      refine ⟨_, _, _, _, rfl, .inr (.inr ⟨hh, hl2, ⟨v, rfl⟩, rfl, rfl, rfl⟩), hm, ho, fun k hk => ?_⟩
      rcases hk with rfl | rfl | ⟨f, hf, hs, hk⟩
      · exact .inl (.inl rfl)
      · exact .inl (.inr (.inl rfl))
      · rcases List.mem_append.1 hf with q | q
        · exact .inl (.inr (.inr ⟨f, q, hs, hk⟩))
        · rw [List.mem_singleton.1 q] at hk
          exact .inr (hfr.le hk)
/-- Add of the document's memory, whatever comes. -/
theorem radd_all (r c : Nat) (a : Option Addr) (G : Mm) (hG : MemOk G) (hlast : G.last < 1000000000) (t : Int) (x : Value) (s : List Vl) (w : World) (h : RefIs w r a c G) (hx : SlIs w x s) :
    Calls Try.prog 26 #[.pointer (some ⟨r, 0, none⟩), .int .i64 t, x] w fun e w' => ∃ G' id fr er a' c', e = .returned (.tuple #[.int .i64 id, .bool fr, .int .i64 er]) ∧ AddTo G t s G' id fr er ∧ RefIs w' r a' c' G' ∧ Only [r] w w' ∧ (∀ k, RefFoot r a' G' k → RefFoot r a G k ∨ w.heap.size ≤ k) := by
  cases hh : G.hit t s with
  | some f =>
    obtain ⟨hf, rfl, rfl⟩ := Mm.hit_some hh
    refine (radd_old r c a G hG f hf x w h hx).mono ?_
    rintro e w' ⟨rfl, hb⟩
    exact ⟨G, _, _, _, a, c, rfl, .inl ⟨f, hh, rfl, rfl, rfl, rfl⟩, h.only (Only.of_below hb []) (by simp), Only.of_below hb _, fun k hk => .inl hk⟩
  | none =>
    by_cases hl : (G.l.length : Int) = G.limit
    · refine (radd_full r c a G t s hh hl x w h hx).mono ?_
      rintro e w' ⟨rfl, hb⟩
      exact ⟨G, _, _, _, a, c, rfl, .inr (.inl ⟨hh, hl, rfl, rfl, rfl, rfl⟩), h.only (Only.of_below hb []) (by simp), Only.of_below hb _, fun k hk => .inl hk⟩
    · have hl2 : (G.l.length : Int) < G.limit := by have := hG.len; omega
      obtain ⟨lim, last, L⟩ := G
      refine (radd_new r c a lim last L t s hh hl2 hG.lim.2 hG.last hlast x w h hx).mono ?_
      rintro e w' ⟨a', c', v, rfl, hr, hf, ho⟩
      refine ⟨_, _, _, _, a', c', rfl, .inr (.inr ⟨hh, hl2, ⟨v, rfl⟩, rfl, rfl, rfl⟩), hr, ho, fun k hk => ?_⟩
      rcases hk with rfl | hk
      · exact .inl (.inl rfl)
      · exact (hf k hk).imp .inr id

theorem mremove_all (b mm : Nat) (M : Mm) (hM : MemOk M) (id : Int) (w : World) (h : MemIs w b mm M) :
    Calls Try.prog 14 #[.pointer (some ⟨b, 0, none⟩), .int .i64 id] w fun e w' => ∃ i t x s ok, e = .returned (.tuple #[.agg #[.int .i64 i, .int .i64 t, x], .bool ok]) ∧ Got M id i t s ok ∧ SlIs w' x s ∧ Fresh w.heap.size x ∧ MemIs w' b mm (M.del id) ∧ Only [mm] w w' := by
  by_cases hf : ∃ f ∈ M.l, f.id = id
  · obtain ⟨f, hf, rfl⟩ := hf
    refine (remove_yes b mm M hM w h f hf).mono ?_
    rintro e w' ⟨v, rfl, h1, h2, h3, h4⟩
    exact ⟨_, _, _, _, _, rfl, .inl ⟨f, hf, rfl, rfl, rfl, rfl, rfl⟩, h1, h2, h3, h4⟩
  · have hn : ∀ f ∈ M.l, f.id ≠ id := fun f q e => hf ⟨f, q, e⟩
    refine (remove_no b mm M w h id hn).mono ?_
    rintro e w' ⟨v, rfl, h1, h2, h3⟩
    exact ⟨_, _, _, _, _, rfl, .inr ⟨hn, rfl, rfl, rfl, rfl⟩, h1, h2, by rw [del_none hn]; exact h.below h3, Only.of_below h3 _⟩
theorem rremove_all (r c : Nat) (a : Option Addr) (G : Mm) (hG : MemOk G) (id : Int) (w : World) (h : RefIs w r a c G) :
    Calls Try.prog 27 #[.pointer (some ⟨r, 0, none⟩), .int .i64 id] w fun e w' => ∃ i t x s ok a' c', e = .returned (.tuple #[.agg #[.int .i64 i, .int .i64 t, x], .bool ok]) ∧ Got G id i t s ok ∧ SlIs w' x s ∧ RefIs w' r a' c' (G.del id) ∧ Only [r] w w' ∧ (∀ k, RefFoot r a' (G.del id) k → RefFoot r a G k ∨ w.heap.size ≤ k) := by
  by_cases hf : ∃ f ∈ G.l, f.id = id
  · obtain ⟨f, hf, rfl⟩ := hf
    refine (rremove_yes r c a G hG w h f hf).mono ?_
    rintro e w' ⟨a', c', rfl, h1, h2, h3⟩
    exact ⟨_, _, _, _, _, a', c', rfl, .inl ⟨f, hf, rfl, rfl, rfl, rfl, rfl⟩, (h.fs.vals f hf).only h3 fun hs k hk => by simpa using h.apart k (.inr ⟨f, hf, hs, hk⟩), h1, h3, fun k hk => hk.elim (fun e => .inl (.inl e)) fun hk => (h2 k hk).imp .inr (fun q => q)⟩
  · have hn : ∀ f ∈ G.l, f.id ≠ id := fun f q e => hf ⟨f, q, e⟩
    refine (rremove_no r c a G w h id hn).mono ?_
    rintro e w' ⟨a', c', rfl, h1, h2, h3⟩
    exact ⟨_, _, _, _, _, a', c', rfl, .inr ⟨hn, rfl, rfl, rfl, rfl⟩, ⟨by simp, .inr ⟨rfl, .inl rfl⟩⟩, h1, h3, fun k hk => hk.elim (fun e => .inl (.inl e)) fun hk => (h2 k hk).imp .inr (fun q => q)⟩
theorem mget_all (b mm : Nat) (M : Mm) (hM : MemOk M) (id : Int) (w : World) (h : MemIs w b mm M) :
    Calls Try.prog 22 #[.pointer (some ⟨b, 0, none⟩), .int .i64 id] w fun e w' => ∃ i t x s ok, e = .returned (.tuple #[.agg #[.int .i64 i, .int .i64 t, x], .bool ok]) ∧ Got M id i t s ok ∧ s.length ≤ 1000000 ∧ OwnV w' w.heap.size x s ∧ Below w.heap.size w w' := by
  by_cases hf : ∃ f ∈ M.l, f.id = id
  · obtain ⟨f, hf, rfl⟩ := hf
    refine (get_own_yes b mm M hM w h f hf).mono ?_
    rintro e w' ⟨v, rfl, h1, h2⟩
    exact ⟨_, _, _, _, _, rfl, .inl ⟨f, hf, rfl, rfl, rfl, rfl, rfl⟩, (h.vals f hf).1.1, h1, h2⟩
  · have hn : ∀ f ∈ M.l, f.id ≠ id := fun f q e => hf ⟨f, q, e⟩
    refine (get_own_no b mm M w h id hn).mono ?_
    rintro e w' ⟨v, rfl, h1, h2⟩
    exact ⟨_, _, _, _, _, rfl, .inr ⟨hn, rfl, rfl, rfl, rfl⟩, by simp, h1, h2⟩
theorem rget_all (r c : Nat) (a : Option Addr) (G : Mm) (hG : MemOk G) (id : Int) (w : World) (h : RefIs w r a c G) :
    Calls Try.prog 31 #[.pointer (some ⟨r, 0, none⟩), .int .i64 id] w fun e w' => ∃ i t x s ok, e = .returned (.tuple #[.agg #[.int .i64 i, .int .i64 t, x], .bool ok]) ∧ Got G id i t s ok ∧ SlIs w' x s ∧ Below w.heap.size w w' := by
  by_cases hf : ∃ f ∈ G.l, f.id = id
  · obtain ⟨f, hf, rfl⟩ := hf
    refine (rget_yes r c a G hG w h f hf).mono ?_
    rintro e w' ⟨rfl, h2⟩
    exact ⟨_, _, _, _, _, rfl, .inl ⟨f, hf, rfl, rfl, rfl, rfl, rfl⟩, (h.fs.vals f hf).only (Only.of_below h2 []) (by simp), h2⟩
  · have hn : ∀ f ∈ G.l, f.id ≠ id := fun f q e => hf ⟨f, q, e⟩
    refine (rget_no r c a G w h id hn).mono ?_
    rintro e w' ⟨rfl, h2⟩
    exact ⟨_, _, _, _, _, rfl, .inr ⟨hn, rfl, rfl, rfl, rfl⟩, ⟨by simp, .inr ⟨rfl, .inl rfl⟩⟩, h2⟩

/-- Both memories, apart from each other. -/
structure Two (w : World) (b mm r c : Nat) (a : Option Addr) (M G : Mm) : Prop where
  mi : MemIs w b mm M
  ri : RefIs w r a c G
  apart : ∀ k, MFoot b mm M k → ¬ RefFoot r a G k
theorem Two.memstep {w V : World} {b mm r c b' mm' : Nat} {a : Option Addr} {M G M' : Mm} {S : List Nat} (h : Two w b mm r c a M G) (hm : MemIs V b' mm' M') (ho : Only S w V) (hS : ∀ k ∈ S, MFoot b mm M k ∨ w.heap.size ≤ k) (hf : ∀ k, MFoot b' mm' M' k → MFoot b mm M k ∨ w.heap.size ≤ k) : Two V b' mm' r c a M' G := by
  refine ⟨hm, h.ri.only ho fun k hk hs => ?_, fun k hk hr => ?_⟩
  · rcases hS k hs with q | q
    · exact h.apart k q hk
    · have := h.ri.foot_lt hk
      omega
  · rcases hf k hk with q | q
    · exact h.apart k q hr
    · have := h.ri.foot_lt hr
      omega
theorem Two.refstep {w V : World} {b mm r c r' c' : Nat} {a a' : Option Addr} {M G G' : Mm} {S : List Nat} (h : Two w b mm r c a M G) (hr : RefIs V r' a' c' G') (ho : Only S w V) (hS : ∀ k ∈ S, RefFoot r a G k ∨ w.heap.size ≤ k) (hf : ∀ k, RefFoot r' a' G' k → RefFoot r a G k ∨ w.heap.size ≤ k) : Two V b mm r' c' a' M G' := by
  refine ⟨h.mi.keep ho fun k hk hs => ?_, hr, fun k hk hr => ?_⟩
  · rcases hS k hs with q | q
    · exact h.apart k hk q
    · have := h.mi.foot_lt hk
      omega
  · rcases hf k hr with q | q
    · exact h.apart k hk q
    · have := h.mi.foot_lt hk
      omega
theorem Two.other {w V : World} {b mm r c : Nat} {a : Option Addr} {M G : Mm} {S : List Nat} (h : Two w b mm r c a M G) (ho : Only S w V) (hS : ∀ k ∈ S, ¬ MFoot b mm M k ∧ ¬ RefFoot r a G k) : Two V b mm r c a M G :=
  ⟨h.mi.keep ho fun k hk hs => (hS k hs).1 hk, h.ri.only ho fun k hk hs => (hS k hs).2 hk, h.apart⟩
theorem Two.below {w V : World} {b mm r c : Nat} {a : Option Addr} {M G : Mm} (h : Two w b mm r c a M G) (hb : Below w.heap.size w V) : Two V b mm r c a M G := h.other (S := []) (Only.of_below hb []) (by simp)
theorem Two.lt {w : World} {b mm r c : Nat} {a : Option Addr} {M G : Mm} (h : Two w b mm r c a M G) {k : Nat} (hk : w.heap.size ≤ k) : ¬ MFoot b mm M k ∧ ¬ RefFoot r a G k :=
  ⟨fun q => by have := h.mi.foot_lt q; omega, fun q => by have := h.ri.foot_lt q; omega⟩
end Go.Proofs.Yteealadflekffaa
