/- Rows of facts; the document's Copy. -/
import Derived.Test.YteealadflekffaaRM1
import Derived.Laws.OwnMore
import Derived.Laws.AppendOwn
import Derived.Deep.RegionLaw
import Derived.Deep.RegionHeld
namespace Go.Proofs.Yteealadflekffaa
open Go Go.RowKit Go.MapKept

theorem heap_new (w : World) (o : Obj) : (w.alloc o).heap[w.heap.size]? = some o := by show (w.heap.push o)[w.heap.size]? = some o; simp
theorem grownNone {w w' : World} (hb : Below w.heap.size w w') : w.grownBy w' none := ⟨hb.os, hb.tape, hb.output, hb.size, fun k hk _ => hb.block k hk⟩
section
variable {α : Type} {k : Nat} {cells : α → List Value}
theorem flat_len (hk : ∀ x, (cells x).length = k) : ∀ l : List α, (l.flatMap cells).length = l.length * k
  | [] => by simp
  | x :: l => by
    rw [List.flatMap_cons, List.length_append, flat_len hk l, hk, List.length_cons, Nat.add_mul]
    omega
theorem flat_at (hk : ∀ x, (cells x).length = k) : ∀ (l : List α) (i j : Nat) (hi : i < l.length), j < k → (l.flatMap cells)[i * k + j]? = (cells l[i])[j]?
  | [], i, _, hi, _ => by simp at hi
  | x :: l, 0, j, _, hj => by
    rw [List.flatMap_cons, List.getElem?_append_left (by rw [hk]; omega)]
    simp
  | x :: l, i + 1, j, hi, hj => by
    have e : (i + 1) * k + j = k + (i * k + j) := by rw [Nat.add_mul]; omega
    rw [List.flatMap_cons, List.getElem?_append_right (by rw [hk, e]; omega), hk, e, Nat.add_sub_cancel_left, flat_at hk l i j (by simpa using hi) hj]
    simp
theorem flat_inv (hk : ∀ x, (cells x).length = k) (h0 : 0 < k) {l : List α} {m : Nat} {u : Value} (h : (l.flatMap cells)[m]? = some u) : ∃ i j, ∃ hi : i < l.length, j < k ∧ m = i * k + j ∧ (cells l[i])[j]? = some u := by
  have hm := (List.getElem?_eq_some_iff.1 h).1
  rw [flat_len hk] at hm
  have hi : m / k < l.length := Nat.div_lt_of_lt_mul (by rw [Nat.mul_comm]; exact hm)
  have hj := Nat.mod_lt m h0
  have e : m = m / k * k + m % k := by rw [Nat.mul_comm]; exact (Nat.div_add_mod m k).symm
  refine ⟨m / k, m % k, hi, hj, e, ?_⟩
  rw [← flat_at hk l _ _ hi hj, ← e]
  exact h
end
theorem own_form {w : World} {B : Nat} {e : TypeId} {k n : Nat} {v : Value} {xs : List Value} (h : w.ownsRow B e k v n xs) : ∃ a c, v = .slice a n c := by
  obtain ⟨_, ⟨rfl, rfl⟩ | ⟨g, cap, cur, rfl, _⟩⟩ := h <;> exact ⟨_, _, rfl⟩
theorem own_below {w w' : World} {B : Nat} {e : TypeId} {k n : Nat} {v : Value} {xs : List Value} (h : w.ownsRow B e k v n xs) (hb : Below w.heap.size w w') : w'.ownsRow B e k v n xs := by
  refine World.ownsRow.kept h (grownNone hb) ?_
  cases hv : v.ownBlock
  · exact .inl rfl
  · exact .inr (by simp)
theorem own_empty {w : World} {X B : Nat} {e : TypeId} {k : Nat} (h : w.heap[X]? = some (.cells #[] e (0, 0))) (hB : B ≤ X) : w.ownsRow B e k (.slice (some ⟨X, 0, none⟩) 0 0) 0 [] := ⟨by simp, .inr ⟨X, 0, #[], rfl, hB, h, Nat.le_refl _, Nat.zero_le _, by simp, by simp⟩⟩

/-- append onto a row of one's own, at a step of a region that draws. -/
theorem step_append_own {P : Program} {ops : Array Oper} {o : Oper} {a : Act} {w : World} {K : Act → World → Prop} {Q : Exit → Act → World → Prop} {E : Prop} (hgd : o.guard = none) (s x : Operand) (t : TypeId)
    (ho : o.op = .call { callee := .builtin .append, args := #[s, x], argTypes := #[t, t] })
    (base : Nat) (e : TypeId) (i : TypeInfo) (z : Value) (size bytes : Nat) (ht : P.underlying t = some (.slice e)) (hi : P.info? e = some i) (hz : i.zero = some z)
    (hsize : i.size = size) (hby : i.bytes = bytes) (hzs : z.cells.size = size) (hsz : 0 < size)
    (v : Value) (n : Nat) (xs : List Value) (hs : a.eval s = v) (hown : w.ownsRow base e size v n xs)
    (ad : Addr) (m c : Nat) (news : List Value) (hx : a.eval x = .slice (some ad) m c) (hl : news.length = m * size) (hnews : ∀ j u, news[j]? = some u → w.cell? (ad.add j) = some u) (h1 : ∀ u ∈ news, u.oneCell' = true)
    (h63 : n + m ≤ maxLen) (hbytes : (n + m) * bytes ≤ 140737488355328) (hbase : base ≤ w.heap.size)
    (h : ∀ v' w', w'.ownsRow base e size v' (n + m) (xs ++ news) → w.grownBy w' v.ownBlock → K (a.put o.dst v') w') :
    if Region.wanted o (yielded ops a.tmps) = true then Oper.wp P o a w K Q else E := by
  have hw : Region.wanted o (yielded ops a.tmps) = true := by simp [Region.wanted, hgd]
  rw [if_pos hw]
  exact wp_append_own w s x t ho base e i z size bytes ht hi hz hsize hby hzs hsz v n xs hs hown ad m c news hx hl hnews h1 h63 hbytes hbase fun v' w' h2 h3 _ => h v' w' h2 h3
theorem step_append_none {P : Program} {ops : Array Oper} {o : Oper} {a : Act} {w : World} {K : Act → World → Prop} {Q : Exit → Act → World → Prop} {E : Prop} (hgd : o.guard = none) (s x : Operand) (t : TypeId)
    (ho : o.op = .call { callee := .builtin .append, args := #[s, x], argTypes := #[t, t] })
    (base : Nat) (e : TypeId) (i : TypeInfo) (size : Nat) (ht : P.underlying t = some (.slice e)) (hi : P.info? e = some i)
    (v : Value) (n : Nat) (xs : List Value) (hs : a.eval s = v) (hown : w.ownsRow base e size v n xs) (hx : a.eval x = .slice none 0 0)
    (h : K (a.put o.dst v) w) :
    if Region.wanted o (yielded ops a.tmps) = true then Oper.wp P o a w K Q else E := by
  have hw : Region.wanted o (yielded ops a.tmps) = true := by simp [Region.wanted, hgd]
  rw [if_pos hw]
  have hrun := run_append_owned_none (P := P) (w := w) base t o.type e i size ht hi v n xs hown
  unfold Oper.wp
  simp [execOp, ho, resolve, invoke, builtin, hs, hx, hrun, Result.andThen]
  exact h
/-- append of a slice that came in, nil or not, onto a row of one's own. -/
theorem step_append_in {P : Program} {ops : Array Oper} {o : Oper} {a : Act} {w : World} {K : Act → World → Prop} {Q : Exit → Act → World → Prop} {E : Prop} (hgd : o.guard = none) (s x : Operand) (t : TypeId)
    (ho : o.op = .call { callee := .builtin .append, args := #[s, x], argTypes := #[t, t] })
    (base : Nat) (e : TypeId) (i : TypeInfo) (z : Value) (size bytes : Nat) (ht : P.underlying t = some (.slice e)) (hi : P.info? e = some i) (hz : i.zero = some z)
    (hsize : i.size = size) (hby : i.bytes = bytes) (hzs : z.cells.size = size) (hsz : 0 < size)
    (v : Value) (n : Nat) (xs : List Value) (hs : a.eval s = v) (hown : w.ownsRow base e size v n xs)
    (ad : Option Addr) (m c : Nat) (news : List Value) (hx : a.eval x = .slice ad m c) (hnil : ad = none → m = 0 ∧ c = 0) (hl : news.length = m * size) (hnews : ∀ p, ad = some p → ∀ j u, news[j]? = some u → w.cell? (p.add j) = some u) (h1 : ∀ u ∈ news, u.oneCell' = true)
    (h63 : n + m ≤ maxLen) (hbytes : (n + m) * bytes ≤ 140737488355328) (hbase : base ≤ w.heap.size)
    (h : ∀ v' w', w'.ownsRow base e size v' (n + m) (xs ++ news) → w.grownBy w' v.ownBlock → K (a.put o.dst v') w') :
    if Region.wanted o (yielded ops a.tmps) = true then Oper.wp P o a w K Q else E := by
  cases ad with
  | none =>
    obtain ⟨rfl, rfl⟩ := hnil rfl
    have : news = [] := List.eq_nil_of_length_eq_zero (by simpa using hl)
    subst this
    exact step_append_none hgd s x t ho base e i size ht hi v n xs hs hown hx (h v w (by simpa using hown) ⟨rfl, rfl, rfl, Nat.le_refl _, fun _ _ _ => rfl⟩)
  | some p => exact step_append_own hgd s x t ho base e i z size bytes ht hi hz hsize hby hzs hsz v n xs hs hown p m c news hx hl (hnews p rfl) h1 h63 hbytes hbase h

def Fc.cells (f : Fc) : List Value := [.int .i64 f.id, .int .i64 f.t, f.x]
def gflat (l : List Fc) : List Value := l.flatMap Fc.cells
theorem gcells (f : Fc) : f.cells.length = 3 := rfl
theorem gflat_len (l : List Fc) : (gflat l).length = l.length * 3 := flat_len gcells l
theorem oneCell_of_sl {w : World} {x : Value} {s : List Vl} (h : SlIs w x s) : x.oneCell' = true := by
  obtain ⟨a, n, c, rfl⟩ := h.form
  rfl
theorem gflat_one' {w : World} {l : List Fc} (h : ∀ f ∈ l, SlIs w f.x f.s) : ∀ u ∈ gflat l, u.oneCell' = true := by
  intro u hu
  obtain ⟨f, hf, hu⟩ := List.mem_flatMap.1 hu
  simp only [Fc.cells, List.mem_cons, List.not_mem_nil, or_false] at hu
  rcases hu with rfl | rfl | rfl
  · rfl
  · rfl
  · exact oneCell_of_sl (h f hf)
theorem FsIs.news {w : World} {a : Option Addr} {l : List Fc} (h : FsIs w a l) : ∀ p, a = some p → ∀ j u, (gflat l)[j]? = some u → w.cell? (p.add j) = some u := by
  intro p hp m u hu
  obtain ⟨i, j, hi, hj, rfl, hc⟩ := flat_inv gcells (by decide) hu
  obtain ⟨b, off, e, c0, c1, c2⟩ := h.at hi
  rw [hp] at e
  cases e
  rw [Addr.add_lit]
  rcases j with _ | _ | _ | j
  · simp only [Fc.cells, List.getElem?_cons_zero, Option.some.injEq] at hc
    subst hc
    exact c0
  · simp only [Fc.cells, List.getElem?_cons_succ, List.getElem?_cons_zero, Option.some.injEq] at hc
    subst hc
    exact c1
  · simp only [Fc.cells, List.getElem?_cons_succ, List.getElem?_cons_zero, Option.some.injEq] at hc
    subst hc
    exact c2
  · omega
/-- A row of one's own that holds the cells of facts. -/
theorem FsIs.of_own {w : World} {B n c : Nat} {a : Option Addr} {l : List Fc} (h : w.ownsRow B 34 3 (.slice a n c) n (gflat l)) (hn : n = l.length) (hl : l.length ≤ 1000000) (hv : ∀ f ∈ l, SlIs w f.x f.s) :
    FsIs w a l ∧ (a = none → l.length = 0 ∧ c = 0) ∧ ∀ p, a = some p → B ≤ p.block ∧ p.block < w.heap.size := by
  subst hn
  have hlt := World.ownsRow.lt h
  have h' := h
  obtain ⟨h1, ⟨e, hz⟩ | ⟨g, cap, cur, e, hb, hg, hn, hc, hs, ht⟩⟩ := h
  · injection e with e1 e2 e3
    subst e1
    exact ⟨⟨hl, .inr (List.eq_nil_of_length_eq_zero hz), hv⟩, fun _ => ⟨hz, e3⟩, fun p hp => by simp at hp⟩
  · injection e with e1 e2 e3
    subst e1
    refine ⟨⟨hl, .inl ⟨g, 0, rfl, fun i hi => ?_⟩, hv⟩, by simp, fun p hp => by cases hp; exact hlt g rfl⟩
    have hc := fun j (hj : j < 3) (v : Value) (hv : (l[i].cells)[j]? = some v) => World.ownsRow.cells h' (g := g) (by rw [e2]; rfl) (i * 3 + j) v (by rw [show (gflat l)[i * 3 + j]? = l[i].cells[j]? from flat_at gcells l i j hi hj]; exact hv)
    have c0 := hc 0 (by omega) _ rfl
    have c1 := hc 1 (by omega) _ rfl
    have c2 := hc 2 (by omega) _ rfl
    rw [Addr.add_lit] at c0 c1 c2
    rw [Nat.zero_add] at c0 c1 c2 ⊢
    exact ⟨c0, c1, c2⟩
theorem infoF : (Try.prog.info? 34).map (fun i => (i.zero, i.size, i.bytes)) = some (some (.agg #[.int .i64 0, .int .i64 0, .slice none 0 0]), 3, 40) := by kernel_rfl
theorem foot_of {B : Nat} {a a' : Option Addr} {l : List Fc} (h : ∀ p, a' = some p → B ≤ p.block) {k : Nat} (hk : FsFoot a' l k) : FsFoot a l k ∨ B ≤ k := by
  rcases hk with ⟨hl, p, hp, rfl⟩ | hk
  · exact .inr (h p hp)
  · exact .inl (.inr hk)

set_option maxRecDepth 100000 in
set_option maxHeartbeats 4000000 in
theorem rmcopy_any (r c : Nat) (a : Option Addr) (G : Mm) (w : World) (h : RefIs w r a c G) :
    Calls Try.prog 30 #[.pointer (some ⟨r, 0, none⟩)] w fun e w' => ∃ r' a' c', e = .returned (.pointer (some ⟨r', 0, none⟩)) ∧ RefIs w' r' a' c' G ∧ (∀ k, FsFoot a' G.l k → FsFoot a G.l k ∨ w.heap.size ≤ k) ∧ w.heap.size ≤ r' ∧ Below w.heap.size w w' := by
  obtain ⟨lim, last, L⟩ := G
  have hlen := h.fs.len
  simp only at hlen
  have Hnil := hide h.nil
  have h1 := gflat_one' h.fs.vals
  have gflat_one : ∀ l, l = L → ∀ u ∈ gflat l, u.oneCell' = true := fun l hl => by subst hl; exact h1
  obtain ⟨i0, hi, hz0, hz1, hz2⟩ := info_parts3 infoF
  have Hi := hide hi
  have Hz0 := hide hz0
  have Hz1 := hide hz1
  have Hz2 := hide hz2
  have HW0 := hide ((Below.refl w.heap.size w).drew)
  obtain ⟨W0, hW0⟩ : ∃ W0, w.drew = W0 := ⟨_, rfl⟩
  rw [hW0] at HW0
  have h0 : RefIs W0 r a c ⟨lim, last, L⟩ := h.only (Only.of_below HW0.out []) (by simp)
  have hsz : w.heap.size = W0.heap.size := by rw [← hW0]; rfl
  have Hkeep : Hid (∀ V, Below W0.heap.size W0 V → V.cell? ⟨r, 0, none⟩ = some (.int .i64 lim) ∧ V.cell? ⟨r, 1, none⟩ = some (.int .i64 last) ∧ V.cell? ⟨r, 2, none⟩ = some (.slice a L.length c)) := hide fun V hV => by
    obtain ⟨z0, z1, z2, _⟩ := cells3 ((hV.block r (lt_of_heap h0.cells)).trans h0.cells)
    exact ⟨z0, z1, z2⟩
  have Hnews : Hid (∀ V, Below W0.heap.size W0 V → ∀ p, a = some p → ∀ j u, (gflat L)[j]? = some u → V.cell? (p.add j) = some u) := hide fun V hV => (h0.fs.only (Only.of_below hV []) (by simp)).news
  have HR : Hid (∀ V, Below W0.heap.size W0 V → ∀ a' k' r', V.ownsRow W0.heap.size 34 3 (.slice a' L.length k') L.length (gflat L) → V.heap[r']? = some (.cells #[.int .i64 lim, .int .i64 last, .slice a' L.length k'] 61 (0, 0)) → (∀ k, Value.ownBlock (.slice a' L.length k') = some k → k < r') → W0.heap.size ≤ r' →
      RefIs V r' a' k' ⟨lim, last, L⟩ ∧ (∀ k, FsFoot a' L k → FsFoot a L k ∨ w.heap.size ≤ k) ∧ w.heap.size ≤ r') := hide fun V hV a' k' r' ho hx hlt hr => by
    obtain ⟨f1, f2, f3⟩ := FsIs.of_own ho rfl hlen fun f hf => (h0.fs.vals f hf).only (Only.of_below hV []) (by simp)
    refine ⟨⟨hx, f1, fun k hk => ?_, f2⟩, fun k hk => by rw [hsz]; exact foot_of (fun p hp => (f3 p hp).1) hk, by rw [hsz]; exact hr⟩
    rcases hk with ⟨_, p, rfl, rfl⟩ | hk
    · have := hlt p.block (by
        rcases ho.2 with ⟨e, _⟩ | ⟨g, cap, cur, e, _⟩
        · cases e
        · cases e; rfl)
      omega
    · have := h0.fs.foot_lt (.inr hk)
      omega
  obtain ⟨y0W0, y1W0, y2W0⟩ := Hkeep.out W0 (Below.refl _ _)
  have bW0 : Below W0.heap.size W0 W0 := Below.refl _ _
  clear h h0 hi hz0 hz1 hz2 hsz h1
  go_enter Try.func30, Try.ntmps30
  obtain ⟨d0, d1, d2⟩ : w.cell? ⟨r, 0, none⟩ = some (.int .i64 lim) ∧ w.cell? ⟨r, 1, none⟩ = some (.int .i64 last) ∧ w.cell? ⟨r, 2, none⟩ = some (.slice a L.length c) := by rw [← hW0] at y0W0 y1W0 y2W0; exact ⟨y0W0, y1W0, y2W0⟩
  go_wp2_with fail
  refine wp_region_noPanic ?_
  refine wp_region_held_drew (S := fun V => V.cell? ⟨r, 0, none⟩ = some (.int .i64 lim) ∧ V.cell? ⟨r, 1, none⟩ = some (.int .i64 last) ∧ V.cell? ⟨r, 2, none⟩ = some (.slice a L.length c)) (by kernel_rfl) ?_ (fun hHeld => ?_)
  · (try dsimp only); go_keep
  rw [hW0] at hHeld ⊢
  clear hW0
  refine wpAnyH_take (i := 0) (oi := ⟨some 3, _, _, _, _, _⟩) (v := ?vf1) rfl (by kernel_rfl) (by kernel_rfl) (by kernel_rfl) (fun _ _ _ h => h) (Or.inl ⟨by rfl, ?hf1⟩) (by assumption) ?rf1
  case hf1 => (intro w hSw; (try dsimp only at hSw); (first | (go_simp; done) | (go_simp; with_reducible rfl)))
  try simp only [Act.put, List.setIfInBounds_toArray, List.set_cons_zero, List.set_cons_succ]
  refine wpAnyH_take (i := 1) (oi := ⟨some 4, _, _, _, _, _⟩) (v := ?vf2) rfl (by kernel_rfl) (by kernel_rfl) (by kernel_rfl) (fun _ _ _ h => h) (Or.inl ⟨by rfl, ?hf2⟩) (by assumption) ?rf2
  case hf2 => (intro w hSw; (try dsimp only at hSw); (first | (go_simp; done) | (go_simp; with_reducible rfl)))
  try simp only [Act.put, List.setIfInBounds_toArray, List.set_cons_zero, List.set_cons_succ]
  refine wpAnyH_take (i := 2) (oi := ⟨some 5, _, _, _, _, _⟩) (v := ?vf3) rfl (by kernel_rfl) (by kernel_rfl) (by kernel_rfl) (fun _ _ _ h => h) (Or.inl ⟨by rfl, ?hf3⟩) (by assumption) ?rf3
  case hf3 => (intro w hSw; (try dsimp only at hSw); (first | (go_simp; done) | (go_simp; with_reducible rfl)))
  try simp only [Act.put, List.setIfInBounds_toArray, List.set_cons_zero, List.set_cons_succ]
  refine wpAnyH_take (i := 3) (oi := ⟨some 6, _, _, _, _, _⟩) (v := ?vf4) rfl (by kernel_rfl) (by kernel_rfl) (by kernel_rfl) (fun _ _ _ h => h) (Or.inl ⟨by rfl, ?hf4⟩) (by assumption) ?rf4
  case hf4 => (intro w hSw; (try dsimp only at hSw); (first | (go_simp; done) | (go_simp; with_reducible rfl)))
  try simp only [Act.put, List.setIfInBounds_toArray, List.set_cons_zero, List.set_cons_succ]
  refine wpAnyH_take (i := 4) (oi := ⟨some 7, _, _, _, _, _⟩) (v := ?vf5) rfl (by kernel_rfl) (by kernel_rfl) (by kernel_rfl) (fun _ _ _ h => h) (Or.inl ⟨by rfl, ?hf5⟩) (by assumption) ?rf5
  case hf5 => (intro w hSw; (try dsimp only at hSw); (first | (go_simp; done) | (go_simp; with_reducible rfl)))
  try simp only [Act.put, List.setIfInBounds_toArray, List.set_cons_zero, List.set_cons_succ]
  refine wpAnyH_take (i := 5) (oi := ⟨some 8, _, _, _, _, _⟩) (v := ?vf6) rfl (by kernel_rfl) (by kernel_rfl) (by kernel_rfl) (fun _ _ _ h => h) (Or.inl ⟨by rfl, ?hf6⟩) (by assumption) ?rf6
  case hf6 => (intro w hSw; (try dsimp only at hSw); (first | (go_simp; done) | (go_simp; with_reducible rfl)))
  try simp only [Act.put, List.setIfInBounds_toArray, List.set_cons_zero, List.set_cons_succ]
  refine wpAnyH_take (i := 6) (oi := ⟨some 9, _, _, _, _, _⟩) (v := ?vf7) rfl (by kernel_rfl) (by kernel_rfl) (by kernel_rfl) (fun _ _ _ h => h) (Or.inl ⟨by rfl, ?hf7⟩) (by assumption) ?rf7
  case hf7 => (intro w hSw; (try dsimp only at hSw); (first | (go_simp; done) | (go_simp; with_reducible rfl)))
  try simp only [Act.put, List.setIfInBounds_toArray, List.set_cons_zero, List.set_cons_succ]
  refine wpAnyH_take (i := 7) (oi := ⟨some 10, _, _, _, _, _⟩) (v := ?vf8) rfl (by kernel_rfl) (by kernel_rfl) (by kernel_rfl) (fun _ _ _ h => h) (Or.inl ⟨by rfl, ?hf8⟩) (by assumption) ?rf8
  case hf8 => (intro w hSw; (try dsimp only at hSw); (first | (go_simp; done) | (go_simp; with_reducible rfl)))
  try simp only [Act.put, List.setIfInBounds_toArray, List.set_cons_zero, List.set_cons_succ]
  refine wpAnyH_take (i := 9) (oi := ⟨some 12, _, _, _, _, _⟩) (v := ?vf9) rfl (by kernel_rfl) (by kernel_rfl) (by kernel_rfl) (fun _ _ _ h => h) (Or.inl ⟨by rfl, ?hf9⟩) (by assumption) ?rf9
  case hf9 => (intro w hSw; (try dsimp only at hSw); (first | (go_simp; done) | (go_simp; with_reducible rfl)))
  try simp only [Act.put, List.setIfInBounds_toArray, List.set_cons_zero, List.set_cons_succ]
  refine wpAnyH_take (i := 10) (oi := ⟨some 13, _, _, _, _, _⟩) (v := ?vf10) rfl (by kernel_rfl) (by kernel_rfl) (by kernel_rfl) (fun _ _ _ h => h) (Or.inl ⟨by rfl, ?hf10⟩) (by assumption) ?rf10
  case hf10 => (intro w hSw; (try dsimp only at hSw); (first | (go_simp; done) | (go_simp; with_reducible rfl)))
  try simp only [Act.put, List.setIfInBounds_toArray, List.set_cons_zero, List.set_cons_succ]
  refine wpAnyH_take (i := 11) (oi := ⟨some 14, _, _, _, _, _⟩) (v := ?vf11) rfl (by kernel_rfl) (by kernel_rfl) (by kernel_rfl) (fun _ _ _ h => h) (Or.inl ⟨by rfl, ?hf11⟩) (by assumption) ?rf11
  case hf11 => (intro w hSw; (try dsimp only at hSw); (first | (go_simp; done) | (go_simp; with_reducible rfl)))
  try simp only [Act.put, List.setIfInBounds_toArray, List.set_cons_zero, List.set_cons_succ]
  refine wpAnyH_take (i := 12) (oi := ⟨some 15, _, _, _, _, _⟩) (v := ?vf12) rfl (by kernel_rfl) (by kernel_rfl) (by kernel_rfl) (fun _ _ _ h => h) (Or.inl ⟨by rfl, ?hf12⟩) (by assumption) ?rf12
  case hf12 => (intro w hSw; (try dsimp only at hSw); (first | (go_simp; done) | (go_simp; with_reducible rfl)))
  try simp only [Act.put, List.setIfInBounds_toArray, List.set_cons_zero, List.set_cons_succ]
  refine wpAnyH_ready (rs := [8]) (by kernel_rfl) (by simp) ?_
  refine (AllReadyH.cons (o := ⟨some 11, _, _, _, _, _⟩) (rs := []) rfl (fun K hK => ?_) AllReadyH.nil)
  have xV1f := heap_new W0 (.cells #[] 34)
  have cV1f := (Below.refl W0.heap.size W0).alloc (Nat.le_refl _) (.cells #[] 34)
  obtain ⟨V1f, eV1f⟩ : ∃ V, W0.alloc (.cells #[] 34) = V := ⟨_, rfl⟩
  rw [eV1f] at xV1f cV1f
  have bV1f := bW0.trans (cV1f.mono bW0.size)
  obtain ⟨y0V1f, y1V1f, y2V1f⟩ := Hkeep.out V1f bV1f
  go_simp
  clear eV1f
  try go_wp2_with fail
  clear hHeld
  refine hK.out _ _ ?_ (fun hHeld => ?_)
  · (try dsimp only); go_keep
  clear hK K
  try simp only [Act.put, List.setIfInBounds_toArray, List.set_cons_zero, List.set_cons_succ]
  refine wpAnyH_ready (rs := [13]) (by kernel_rfl) (by simp) ?_
  refine (AllReadyH.cons (o := ⟨some 16, _, _, _, _, _⟩) (rs := []) rfl (fun K hK => ?_) AllReadyH.nil)
  refine step_append_in rfl (.tmp 11) (.tmp 15) 54 rfl W0.heap.size 34 i0 (.agg #[.int .i64 0, .int .i64 0, .slice none 0 0]) 3 40 Try.underlying54 Hi.out Hz0.out Hz1.out Hz2.out rfl (by decide) (.slice (some ⟨W0.heap.size, 0, none⟩) 0 0) 0 [] (by simp [Act.eval]) (own_empty (B := W0.heap.size) (k := 3) xV1f bW0.size) a L.length c (gflat L) (by simp [Act.eval]) Hnil.out (gflat_len L) (Hnews.out V1f bV1f) (gflat_one L rfl) (by unfold maxLen; omega) (by omega) bV1f.size ?_
  intro uV2f V2f oV2f gV2f
  rw [Nat.zero_add, List.nil_append] at oV2f
  obtain ⟨aV2f, kV2f, rfl⟩ := own_form oV2f
  have bV2f : Below W0.heap.size W0 V2f := bV1f.grown gV2f bV1f.size (fun k e => (World.ownsRow.lt (own_empty (B := W0.heap.size) (k := 3) xV1f bW0.size) k e).1)
  obtain ⟨y0V2f, y1V2f, y2V2f⟩ := Hkeep.out V2f bV2f
  clear hHeld
  refine hK.out _ _ ?_ (fun hHeld => ?_)
  · (try dsimp only); go_keep
  clear hK K
  try simp only [Act.put, List.setIfInBounds_toArray, List.set_cons_zero, List.set_cons_succ]
  refine wpAnyH_take (i := 14) (oi := ⟨some 17, _, _, _, _, _⟩) (v := ?vf13) rfl (by kernel_rfl) (by kernel_rfl) (by kernel_rfl) (fun _ _ _ h => h) (Or.inl ⟨by rfl, ?hf13⟩) (by assumption) ?rf13
  case hf13 => (intro w hSw; (try dsimp only at hSw); (first | (go_simp; done) | (go_simp; with_reducible rfl)))
  try simp only [Act.put, List.setIfInBounds_toArray, List.set_cons_zero, List.set_cons_succ]
  refine wpAnyH_ready (rs := [15]) (by kernel_rfl) (by simp) ?_
  refine (AllReadyH.cons (o := ⟨some 18, _, _, _, _, _⟩) (rs := []) rfl (fun K hK => ?_) AllReadyH.nil)
  have xV3f := heap_new V2f (.cells #[.int .i64 lim, .int .i64 last, .slice aV2f L.length kV2f] 61)
  have cV3f := (Below.refl V2f.heap.size V2f).alloc (Nat.le_refl _) (.cells #[.int .i64 lim, .int .i64 last, .slice aV2f L.length kV2f] 61)
  obtain ⟨V3f, eV3f⟩ : ∃ V, V2f.alloc (.cells #[.int .i64 lim, .int .i64 last, .slice aV2f L.length kV2f] 61) = V := ⟨_, rfl⟩
  rw [eV3f] at xV3f cV3f
  have bV3f := bV2f.trans (cV3f.mono bV2f.size)
  obtain ⟨y0V3f, y1V3f, y2V3f⟩ := Hkeep.out V3f bV3f
  go_simp
  clear eV3f
  try go_wp2_with fail
  clear hHeld
  refine hK.out _ _ ?_ (fun hHeld => ?_)
  · (try dsimp only); go_keep
  clear hK K
  try simp only [Act.put, List.setIfInBounds_toArray, List.set_cons_zero, List.set_cons_succ]
  refine wpAnyH_take (i := 16) (oi := ⟨some 2, _, _, _, _, _⟩) (v := ?vf14) rfl (by kernel_rfl) (by kernel_rfl) (by kernel_rfl) (fun _ _ _ h => h) (Or.inl ⟨by rfl, ?hf14⟩) (by assumption) ?rf14
  case hf14 => (intro w hSw; (try dsimp only at hSw); (first | (go_simp; done) | (go_simp; with_reducible rfl)))
  try simp only [Act.put, List.setIfInBounds_toArray, List.set_cons_zero, List.set_cons_succ]
  refine wpAnyH_done (by kernel_rfl) ?_ _
  refine NoPanic.normal ?_
  have HF := hide (HR.out V3f bV3f _ _ _ (own_below oV2f cV3f) xV3f (fun k e => (World.ownsRow.lt oV2f k e).2) bV2f.size)
  have HB := hide (HW0.out.trans (bV3f.mono HW0.out.size))
  clear hHeld
  go_wp2
  go_ret
  exact ⟨_, _, _, rfl, HF.out.1, HF.out.2.1, HF.out.2.2, HB.out⟩
end Go.Proofs.Yteealadflekffaa
