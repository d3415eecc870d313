/- The document's memory (witanref05): what it holds; Find, Get, SameFacts. -/
import Derived.Test.YteealadflekffaaMem2
import Derived.Test.YteealadflekffaaSame
import Derived.Deep.QuietTactic
import Derived.BigQuiet
namespace Go.Proofs.Yteealadflekffaa
open Go Go.RowKit Go.MapKept

/-- What a fact says. -/
def Fc.say (f : Fc) : Int × Int × List Vl := (f.id, f.t, f.s)
/-- The facts l lie in block b from cell off on. -/
def FsAt (w : World) (b off : Nat) (l : List Fc) : Prop :=
  ∀ i (h : i < l.length), w.cell? ⟨b, off + i * 3, none⟩ = some (.int .i64 l[i].id) ∧ w.cell? ⟨b, off + i * 3 + 1, none⟩ = some (.int .i64 l[i].t) ∧ w.cell? ⟨b, off + i * 3 + 2, none⟩ = some l[i].x
/-- The slice of that address reads as the facts l. -/
structure FsIs (w : World) (a : Option Addr) (l : List Fc) : Prop where
  len : l.length ≤ 1000000
  cells : (∃ b off, a = some ⟨b, off, none⟩ ∧ FsAt w b off l) ∨ l = []
  vals : ∀ f ∈ l, SlIs w f.x f.s
/-- The blocks on which facts hang. -/
def FsFoot (a : Option Addr) (l : List Fc) (k : Nat) : Prop := (l ≠ [] ∧ ∃ p, a = some p ∧ p.block = k) ∨ ∃ f ∈ l, f.s ≠ [] ∧ blkOf f.x = some k

theorem FsIs.at {w : World} {a : Option Addr} {l : List Fc} (h : FsIs w a l) {i : Nat} (hi : i < l.length) :
    ∃ b off, a = some ⟨b, off, none⟩ ∧ w.cell? ⟨b, off + i * 3, none⟩ = some (.int .i64 l[i].id) ∧ w.cell? ⟨b, off + i * 3 + 1, none⟩ = some (.int .i64 l[i].t) ∧ w.cell? ⟨b, off + i * 3 + 2, none⟩ = some l[i].x := by
  rcases h.cells with ⟨b, off, rfl, hc⟩ | rfl
  · exact ⟨b, off, rfl, hc i hi⟩
  · simp at hi
theorem FsIs.foot_lt {w : World} {a : Option Addr} {l : List Fc} (h : FsIs w a l) {k : Nat} (hk : FsFoot a l k) : k < w.heap.size := by
  rcases hk with ⟨hl, p, rfl, rfl⟩ | ⟨f, hf, hs, hk⟩
  · obtain ⟨b, off, e, c0, _⟩ := h.at (List.length_pos_iff.2 hl)
    cases e
    exact lt_of_cell c0
  · exact (h.vals f hf).blk_lt hs hk
theorem FsIs.only {w w' : World} {a : Option Addr} {l : List Fc} {S : List Nat} (h : FsIs w a l) (ho : Only S w w') (hd : ∀ k, FsFoot a l k → k ∉ S) : FsIs w' a l := by
  refine ⟨h.len, ?_, fun f hf => (h.vals f hf).only ho fun hn k hk => hd k (.inr ⟨f, hf, hn, hk⟩)⟩
  by_cases hl : l = []
  · exact .inr hl
  · rcases h.cells with ⟨b, off, rfl, hc⟩ | e
    · have hb := hd b (.inl ⟨hl, _, rfl, rfl⟩)
      have hlt := h.foot_lt (k := b) (.inl ⟨hl, _, rfl, rfl⟩)
      refine .inl ⟨b, off, rfl, fun i hi => ?_⟩
      obtain ⟨c0, c1, c2⟩ := hc i hi
      exact ⟨(ho.cell (p := ⟨b, _, none⟩) hlt hb).trans c0, (ho.cell (p := ⟨b, _, none⟩) hlt hb).trans c1, (ho.cell (p := ⟨b, _, none⟩) hlt hb).trans c2⟩
    · exact absurd e hl

/-- Block r is the document's memory G; its facts' slice is that of address a and capacity c. -/
structure RefIs (w : World) (r : Nat) (a : Option Addr) (c : Nat) (G : Mm) : Prop where
  cells : w.heap[r]? = some (.cells #[.int .i64 G.limit, .int .i64 G.last, .slice a G.l.length c] 61 (0, 0))
  fs : FsIs w a G.l
  apart : ∀ k, FsFoot a G.l k → k ≠ r
  nil : a = none → G.l.length = 0 ∧ c = 0
def RefFoot (r : Nat) (a : Option Addr) (G : Mm) (k : Nat) : Prop := k = r ∨ FsFoot a G.l k
theorem RefIs.foot_lt {w : World} {r c : Nat} {a : Option Addr} {G : Mm} (h : RefIs w r a c G) {k : Nat} (hk : RefFoot r a G k) : k < w.heap.size := by
  rcases hk with rfl | hk
  · exact lt_of_heap h.cells
  · exact h.fs.foot_lt hk
theorem RefIs.only {w w' : World} {r c : Nat} {a : Option Addr} {G : Mm} {S : List Nat} (h : RefIs w r a c G) (ho : Only S w w') (hd : ∀ k, RefFoot r a G k → k ∉ S) : RefIs w' r a c G :=
  ⟨(ho.block r (lt_of_heap h.cells) (hd r (.inl rfl))).trans h.cells, h.fs.only ho fun k hk => hd k (.inr hk), h.apart, h.nil⟩
def MFoot (b mm : Nat) (M : Mm) (k : Nat) : Prop := k = b ∨ k = mm ∨ ∃ f ∈ M.l, f.s ≠ [] ∧ blkOf f.x = some k
theorem MemIs.foot_lt {w : World} {b mm : Nat} {M : Mm} (h : MemIs w b mm M) {k : Nat} (hk : MFoot b mm M k) : k < w.heap.size := by
  rcases hk with rfl | rfl | ⟨f, hf, hs, hk⟩
  · exact lt_of_heap h.cells
  · exact h.map.lt
  · exact (h.vals f hf).1.blk_lt hs hk
theorem MemIs.keep {w w' : World} {b mm : Nat} {M : Mm} {S : List Nat} (h : MemIs w b mm M) (ho : Only S w w') (hd : ∀ k, MFoot b mm M k → k ∉ S) : MemIs w' b mm M :=
  h.only ho (hd b (.inl rfl)) (hd mm (.inr (.inl rfl))) fun f hf hn k hk => hd k (.inr (.inr ⟨f, hf, hn, hk⟩))

theorem sl_drew {w : World} {x : Value} {s : List Vl} (h : SlIs w x s) (n : Nat) : SlIs (w.drewN n) x s := h.only ((Only.refl [] w).drewN n) (by simp)

theorem quiet_add {P : Program} {f : FuncId} {args : Array Value} {w : World} {a n : Nat} {v : Value}
    (h : Calls P f args (w.drewN (a + n)) fun e w' => e = .returned v ∧ ∃ m, w' = (w.drewN (a + n)).drewN m) :
    Calls P f args (w.drewN (a + n)) fun e w'' => e = .returned v ∧ ∃ m, w'' = w.drewN (a + m) :=
  h.mono fun _ _ ⟨he, m, hm⟩ => ⟨he, n + m, by rw [hm, World.drewN_drewN, Nat.add_assoc]⟩

theorem hit_at {G : Mm} {t : Int} {s : List Vl} {k : Nat} (hk : k < G.l.length) (hq : ∀ j (h : j < G.l.length), j < k → ¬ (G.l[j].t = t ∧ G.l[j].s = s)) (hy : G.l[k].t = t ∧ G.l[k].s = s) : G.hit t s = some G.l[k] := by
  unfold Mm.hit
  rw [List.find?_eq_some_iff_getElem]
  exact ⟨by simpa using hy, k, hk, rfl, fun j hj => by rw [Bool.not_eq_true', decide_eq_false_iff_not]; exact hq j (by omega) hj⟩
theorem hit_off {G : Mm} {t : Int} {s : List Vl} (hq : ∀ j (h : j < G.l.length), ¬ (G.l[j].t = t ∧ G.l[j].s = s)) : G.hit t s = none := by
  unfold Mm.hit
  rw [List.find?_eq_none]
  intro f hf
  obtain ⟨j, hj, rfl⟩ := List.getElem_of_mem hf
  simpa using hq j hj
theorem ahead_step {l : List Fc} {p : Fc → Prop} {k : Nat} (hq : ∀ j (h : j < l.length), j < k → ¬ p l[j]) (hk : k < l.length) (h : ¬ p l[k]) : ∀ j (h : j < l.length), j < k + 1 → ¬ p l[j] := fun j hj hjk => by
  rcases Nat.lt_or_ge j k with q | q
  · exact hq j hj q
  · obtain rfl : j = k := by omega
    exact h

set_option maxHeartbeats 1000000 in
theorem rfind_any (r c : Nat) (a : Option Addr) (G : Mm) (t : Int) (x : Value) (s : List Vl) (w : World) (h : RefIs w r a c G) (hx : SlIs w x s) :
    Calls Try.prog 32 #[.pointer (some ⟨r, 0, none⟩), .int .i64 t, x] w fun e w' => e = .returned (.int .i64 (G.find t s)) ∧ ∃ n, w' = w.drewN n := by
  obtain ⟨xa, xn, xc, rfl⟩ := hx.form
  obtain ⟨c0, c1, c2, _⟩ := cells3 h.cells
  have Hx := hide hx
  have H := hide h
  have hlen := h.fs.len
  clear h hx c0 c1
  go_enter Try.func32, Try.ntmps32
  go_wp2
  go_loopw [7] (fun vi wr => ∃ k : Nat, k ≤ G.l.length ∧ vi = .int .i64 k ∧ Hid (∀ j (h : j < G.l.length), j < k → ¬ (G.l[j].t = t ∧ G.l[j].s = s)) ∧ ∃ n, wr = w.drewN n) (fun vi _ => G.l.length - (intOf vi).toNat)
  case atStart => exact ⟨0, Nat.zero_le _, rfl, fun j h hj => absurd hj (by omega), 0, rfl⟩
  case round =>
    obtain ⟨k, hk, rfl, hq, n, rfl⟩ := hrel
    by_cases hlk : k < G.l.length
    · obtain ⟨b, off, rfl, d0, d1, d2⟩ := H.out.fs.at hlk
      have hv := H.out.fs.vals _ (List.getElem_mem hlk)
      have hyes := hit_at hlk hq.out
      have hno := ahead_step (p := fun f => f.t = t ∧ f.s = s) hq.out hlk
      obtain ⟨f, hf⟩ : ∃ f, G.l[k] = f := ⟨_, rfl⟩
      rw [hf] at d0 d1 d2 hv hyes hno
      clear hf
      obtain ⟨id, ft, fs, fx⟩ := f
      simp only at d0 d1 d2 hv hyes hno
      obtain ⟨fa, fn, fc, rfl⟩ := hv.form
      have Hv := hide hv
      have Hyes := hide hyes
      have Hno := hide hno
      have i1 : (0 : Int) ≤ (k : Int) := by omega
      have i2 : (k : Int) < (G.l.length : Int) := by omega
      clear hv hyes hno
      by_cases ht : ft = t
      · have hteq : (ft == t) = true := by simpa using ht
        have Ht := hide ht
        clear ht
        go_wp2_with fail
        (with_reducible refine (same_any _ _ fs s _ (sl_drew Hv.out _) (sl_drew Hx.out _)).mono ?_)
        rintro e w2 ⟨rfl, nq, rfl⟩
        by_cases hs : fs = s
        · have hseq : decide (fs = s) = true := by simpa using hs
          have Hf := hide (Hyes.out ⟨Ht.out, hs⟩)
          clear hs
          go_wp2
          go_ret
          exact ⟨by unfold Mm.find; rw [Hf.out]; rfl, _, rfl⟩
        · have hseq : decide (fs = s) = false := by simpa using hs
          have Hs := hide (Hno.out fun q => hs q.2)
          clear hs
          go_wp2
          go_roundw
          case rel => exact ⟨k + 1, by omega, by go_num, Hs.out, _, rfl⟩
          case measure => simp [intOf]; omega
      · have hteq : (ft == t) = false := by simpa using ht
        have Hs := hide (Hno.out fun q => ht q.1)
        clear ht
        go_wp2
        go_roundw
        case rel => exact ⟨k + 1, by omega, by go_num, Hs.out, _, rfl⟩
        case measure => simp [intOf]; omega
    · obtain rfl : k = G.l.length := by omega
      have Hn := hide (hit_off fun j h => hq.out j h h)
      go_wp2
      go_ret
      exact ⟨by unfold Mm.find; rw [Hn.out]; rfl, _, rfl⟩

set_option maxHeartbeats 1000000 in
theorem rget_yes (r c : Nat) (a : Option Addr) (G : Mm) (hG : MemOk G) (w : World) (h : RefIs w r a c G) (f : Fc) (hf : f ∈ G.l) :
    Calls Try.prog 31 #[.pointer (some ⟨r, 0, none⟩), .int .i64 f.id] w fun e w' => e = .returned (.tuple #[.agg #[.int .i64 f.id, .int .i64 f.t, f.x], .bool true]) ∧ Below w.heap.size w w' := by
  obtain ⟨c0, c1, c2, _⟩ := cells3 h.cells
  have hr := lt_of_heap h.cells
  have H := hide h
  have hlen := h.fs.len
  obtain ⟨fa, fn, fc, hfx⟩ := (h.fs.vals f hf).form
  have Hi := hide hG.ids
  have Hf := hide hf
  clear h hG hf c0 c1
  obtain ⟨id, ft, fs, fx⟩ := f
  simp only at hfx Hf ⊢
  subst hfx
  go_enter Try.func31, Try.ntmps31
  go_wp2
  go_loopw [6] (fun vi wr => ∃ k : Nat, k ≤ G.l.length ∧ vi = .int .i64 k ∧ Hid (∀ j (h : j < G.l.length), j < k → ¬ (G.l[j].id = id)) ∧ wr = w.alloc (.cells #[.int .i64 0, .int .i64 0, .slice none 0 0] 34)) (fun vi _ => G.l.length - (intOf vi).toNat)
  case atStart => exact ⟨0, Nat.zero_le _, rfl, fun j h hj => absurd hj (by omega), rfl⟩
  case round =>
    obtain ⟨k, hk, rfl, hq, rfl⟩ := hrel
    by_cases hlk : k < G.l.length
    · obtain ⟨b, off, rfl, d0, d1, d2⟩ := H.out.fs.at hlk
      have hbl := lt_of_cell d0
      have hno := ahead_step (p := fun f => f.id = id) hq.out hlk
      have hsame : G.l[k].id = id → G.l[k] = ⟨id, ft, fs, .slice fa fn fc⟩ := fun e => by
        rcases pairwise_cases Hi.out (List.getElem_mem hlk) Hf.out with q | q | q
        · exact q
        · simp only at q; omega
        · simp only at q; omega
      have i1 : (0 : Int) ≤ (k : Int) := by omega
      have i2 : (k : Int) < (G.l.length : Int) := by omega
      by_cases he : G.l[k].id = id
      · rw [hsame he] at d0 d1 d2
        simp only at d0 d1 d2
        clear he hno hsame
        go_wp2
        refine bodyPost_ret (v := .tuple #[.agg #[.int .i64 id, .int .i64 ft, .slice fa fn fc], .bool true]) (by simp [results, Try.results31, go_sem, *]) rfl ?_
        exact ⟨rfl, (Below.refl w.heap.size w).alloc (Nat.le_refl _) _⟩
      · have hne : (G.l[k].id == id) = false := by simpa using he
        have Hs := hide (hno he)
        clear he hno hsame d1 d2
        go_wp2
        go_roundw
        case rel => exact ⟨k + 1, by omega, by go_num, Hs.out, by first | trivial | rfl⟩
        case measure => simp [intOf]; omega
    · obtain rfl : k = G.l.length := by omega
      obtain ⟨j, hj, e⟩ := List.getElem_of_mem Hf.out
      exact absurd (by rw [e]) (hq.out j hj hj)

set_option maxHeartbeats 1000000 in
theorem rget_no (r c : Nat) (a : Option Addr) (G : Mm) (w : World) (h : RefIs w r a c G) (id : Int) (hid : ∀ f ∈ G.l, f.id ≠ id) :
    Calls Try.prog 31 #[.pointer (some ⟨r, 0, none⟩), .int .i64 id] w fun e w' => e = .returned (.tuple #[.agg #[.int .i64 0, .int .i64 0, .slice none 0 0], .bool false]) ∧ Below w.heap.size w w' := by
  obtain ⟨c0, c1, c2, _⟩ := cells3 h.cells
  have hr := lt_of_heap h.cells
  have H := hide h
  have Hid0 := hide hid
  have hlen := h.fs.len
  clear h hid c0 c1
  go_enter Try.func31, Try.ntmps31
  go_wp2
  go_loopw [6] (fun vi wr => ∃ k : Nat, k ≤ G.l.length ∧ vi = .int .i64 k ∧ wr = w.alloc (.cells #[.int .i64 0, .int .i64 0, .slice none 0 0] 34)) (fun vi _ => G.l.length - (intOf vi).toNat)
  case atStart => exact ⟨0, Nat.zero_le _, rfl, rfl⟩
  case round =>
    obtain ⟨k, hk, rfl, rfl⟩ := hrel
    by_cases hlk : k < G.l.length
    · obtain ⟨b, off, rfl, d0, d1, d2⟩ := H.out.fs.at hlk
      have hbl := lt_of_cell d0
      have hne : (G.l[k].id == id) = false := by simpa using Hid0.out _ (List.getElem_mem hlk)
      have i1 : (0 : Int) ≤ (k : Int) := by omega
      have i2 : (k : Int) < (G.l.length : Int) := by omega
      clear d1 d2
      go_wp2
      go_roundw
      case rel => exact ⟨k + 1, by omega, by go_num, by first | trivial | rfl⟩
      case measure => simp [intOf]; omega
    · obtain rfl : k = G.l.length := by omega
      go_wp2
      refine bodyPost_ret (v := .tuple #[.agg #[.int .i64 0, .int .i64 0, .slice none 0 0], .bool false]) (by simp [results, Try.results31, go_sem, *]) rfl ?_
      exact ⟨rfl, (Below.refl w.heap.size w).alloc (Nat.le_refl _) _⟩

theorem says_take {l m : List Fc} {k : Nat} (hl : k < l.length) (hm : k < m.length) (h : (l.take k).map Fc.say = (m.take k).map Fc.say) (he : l[k].say = m[k].say) : (l.take (k + 1)).map Fc.say = (m.take (k + 1)).map Fc.say := by
  rw [List.take_succ_eq_append_getElem hl, List.take_succ_eq_append_getElem hm, List.map_append, List.map_append, h]
  simp [he]
theorem says_ne {l m : List Fc} {k : Nat} (hl : k < l.length) (hm : k < m.length) (h : l[k].say ≠ m[k].say) : decide (l.map Fc.say = m.map Fc.say) = false := by
  rw [decide_eq_false_iff_not]
  intro e
  have := congrArg (fun q => q[k]?) e
  simp [hl, hm] at this
  exact h this

set_option maxHeartbeats 2000000 in
theorem sameF_any (a a' : Option Addr) (c c' : Nat) (l m : List Fc) (w : World) (h : FsIs w a l) (h' : FsIs w a' m) :
    Calls Try.prog 33 #[.slice a l.length c, .slice a' m.length c'] w fun e w' => e = .returned (.bool (decide (l.map Fc.say = m.map Fc.say))) ∧ ∃ n, w' = w.drewN n := by
  have hlen := h.len
  have hlen' := h'.len
  by_cases hlm : l.length = m.length
  · have H := hide h
    have H' := hide h'
    have Hlm := hide hlm
    have hlq : ((l.length : Int) == (m.length : Int)) = true := by rw [hlm]; simp
    rw [← hlm]
    clear h h' hlm hlen'
    go_enter Try.func33, Try.ntmps33
    go_wp2
    go_loopw [5] (fun vi wr => ∃ k : Nat, k ≤ l.length ∧ vi = .int .i64 k ∧ Hid ((l.take k).map Fc.say = (m.take k).map Fc.say) ∧ ∃ n, wr = w.drewN n) (fun vi _ => l.length - (intOf vi).toNat)
    case atStart => exact ⟨0, Nat.zero_le _, rfl, rfl, 0, rfl⟩
    case round =>
      obtain ⟨k, hk, rfl, hq, n, rfl⟩ := hrel
      by_cases hlk : k < l.length
      · have hmk : k < m.length := by rw [← Hlm.out]; exact hlk
        obtain ⟨b, off, rfl, d0, d1, d2⟩ := H.out.at hlk
        obtain ⟨b', off', rfl, e0, e1, e2⟩ := H'.out.at hmk
        have hv := H.out.vals _ (List.getElem_mem hlk)
        have hv' := H'.out.vals _ (List.getElem_mem hmk)
        have hyes := says_take hlk hmk hq.out
        have hno := says_ne hlk hmk
        obtain ⟨f, hf⟩ : ∃ f, l[k] = f := ⟨_, rfl⟩
        obtain ⟨g, hg⟩ : ∃ g, m[k] = g := ⟨_, rfl⟩
        rw [hf] at d0 d1 d2 hv hyes hno
        rw [hg] at e0 e1 e2 hv' hyes hno
        clear hf hg
        obtain ⟨id, ft, fs, fx⟩ := f
        obtain ⟨id', ft', fs', fx'⟩ := g
        simp only [Fc.say] at d0 d1 d2 hv e0 e1 e2 hv' hyes hno
        obtain ⟨fa, fn, fc, rfl⟩ := hv.form
        obtain ⟨ga, gn, gc, rfl⟩ := hv'.form
        have Hv := hide hv
        have Hv' := hide hv'
        have Hyes := hide hyes
        have Hno := hide hno
        have i1 : (0 : Int) ≤ (k : Int) := by omega
        have i2 : (k : Int) < (l.length : Int) := by omega
        clear hv hv' hyes hno hmk
        by_cases hi : id = id'
        · have q1 : (id == id') = true := by simpa using hi
          have q1' : (id != id') = false := by simpa using hi
          have Hi := hide hi
          clear hi
          by_cases ht : ft = ft'
          · have q2 : (ft == ft') = true := by simpa using ht
            have q2' : (ft != ft') = false := by simpa using ht
            have Ht := hide ht
            clear ht
            have hS := fun n => same_any _ _ fs fs' _ (sl_drew Hv.out n) (sl_drew Hv'.out n)
            by_cases hs : fs = fs'
            · have hseq : decide (fs = fs') = true := by simpa using hs
              rw [hseq] at hS
              have HS := hide hS
              have Hs := hide (Hyes.out (by rw [Hi.out, Ht.out, hs]))
              clear hs hseq hS
              go_wp2_with fail
              go_quiet ((go_at_call 23; exact quiet_add (HS.out _)))
              go_wp2
              go_roundw
              case rel => exact ⟨k + 1, by omega, by go_num, Hs.out, _, rfl⟩
              case measure => simp [intOf]; omega
            · have hseq : decide (fs = fs') = false := by simpa using hs
              rw [hseq] at hS
              have HS := hide hS
              have Hn := hide (Hno.out (by simp [hs]))
              clear hs hseq hS
              go_wp2_with fail
              go_quiet ((go_at_call 23; exact quiet_add (HS.out _)))
              go_wp2
              go_ret
              exact ⟨by rw [Hn.out]; rfl, _, World.drewN_drewN _ _ _⟩
          · have q2 : (ft == ft') = false := by simpa using ht
            have q2' : (ft != ft') = true := by simpa using ht
            have Hn := hide (Hno.out (by simp [ht]))
            clear ht
            go_wp2_with fail
            go_quiet (fail)
            go_wp2
            go_ret
            exact ⟨by rw [Hn.out]; rfl, _, World.drewN_drewN _ _ _⟩
        · have q1 : (id == id') = false := by simpa using hi
          have q1' : (id != id') = true := by simpa using hi
          have Hn := hide (Hno.out (by simp [hi]))
          clear hi
          go_wp2_with fail
          go_quiet (fail)
          go_wp2
          go_ret
          exact ⟨by rw [Hn.out]; rfl, _, World.drewN_drewN _ _ _⟩
      · obtain rfl : k = l.length := by omega
        have Hy := hide (show decide (l.map Fc.say = m.map Fc.say) = true by
          have := hq.out
          rw [List.take_length, Hlm.out, List.take_length] at this
          simpa using this)
        go_wp2
        go_ret
        exact ⟨by rw [Hy.out]; rfl, _, rfl⟩
  · have hlq : ((l.length : Int) == (m.length : Int)) = false := by rw [beq_eq_false_iff_ne]; omega
    have hlq' : ((l.length : Int) != (m.length : Int)) = true := by rw [bne_iff_ne]; omega
    have hd : decide (l.map Fc.say = m.map Fc.say) = false := by
      rw [decide_eq_false_iff_not]
      intro e
      have := congrArg List.length e
      simp at this
      exact hlm this
    rw [hd]
    clear h h' hlm hd
    go_enter Try.func33, Try.ntmps33
    go_wp2
    go_ret
    exact ⟨rfl, 0, rfl⟩
end Go.Proofs.Yteealadflekffaa
