/- witanref29's Book: Justify. -/
import Derived.Test.YtmcajoccfbebiaaRT6
import Derived.Test.YtmcajoccfbebiaaRTB
import Derived.Test.YtmcajoccfbebiaaRef29
import Derived.Deep.RegionLaw
import Derived.Deep.RegionHeld3
namespace Go.Proofs.Ytmcajoccfbebiaa
open Go Go.RowKit Go.MapKept Go.Sort

/-- What append reads. -/
def SrcN (w : World) (size : Nat) (vx : Value) (m : Nat) (news : List Value) : Prop :=
  (vx = .slice none 0 0 ∧ m = 0 ∧ news = []) ∨ ∃ ad c, vx = .slice (some ad) m c ∧ news.length = m * size ∧ ∀ j u, news[j]? = some u → w.cell? (ad.add j) = some u
theorem SrcN.keeps {w V : World} {size m : Nat} {vx : Value} {news : List Value} (h : SrcN w size vx m news) (hk : KeepsCells w V) : SrcN V size vx m news :=
  h.imp id fun ⟨ad, c, h1, h2, h3⟩ => ⟨ad, c, h1, h2, fun j u hu => hk _ _ (h3 j u hu)⟩
/-- append of what can be read onto a row of one's own, at a step of a region that draws. -/
theorem step_append_any {P : Program} {ops : Array Oper} {o : Oper} {a : Act} {w : World} {K : Act → World → Prop} {Q : Exit → Act → World → Prop} {E : Prop} (hgd : o.guard = none) (s x : Operand) (t : TypeId)
    (ho : o.op = .call { callee := .builtin .append, args := #[s, x], argTypes := #[t, t] })
    (base : Nat) (e : TypeId) (i : TypeInfo) (z : Value) (size bytes : Nat) (ht : P.underlying t = some (.slice e)) (hi : P.info? e = some i) (hz : i.zero = some z)
    (hsize : i.size = size) (hby : i.bytes = bytes) (hzs : z.cells.size = size) (hsz : 0 < size)
    (v : Value) (n : Nat) (xs : List Value) (hs : a.eval s = v) (hown : w.ownsRow base e size v n xs)
    (vx : Value) (m : Nat) (news : List Value) (hx : a.eval x = vx) (hsrc : SrcN w size vx m news) (h1 : ∀ u ∈ news, u.oneCell' = true)
    (h63 : n + m ≤ maxLen) (hbytes : (n + m) * bytes ≤ 140737488355328) (hbase : base ≤ w.heap.size)
    (h : ∀ v' w', w'.ownsRow base e size v' (n + m) (xs ++ news) → w.grownBy w' v.ownBlock → K (a.put o.dst v') w') :
    if Region.wanted o (yielded ops a.tmps) = true then Oper.wp P o a w K Q else E := by
  rcases hsrc with ⟨rfl, rfl, rfl⟩ | ⟨ad, c, rfl, hl, hnews⟩
  · exact step_append_none hgd s x t ho base e i size ht hi v n xs hs hown hx (h v w (by simpa using hown) ⟨rfl, rfl, rfl, Nat.le_refl _, fun _ _ _ => rfl⟩)
  · exact step_append_own hgd s x t ho base e i z size bytes ht hi hz hsize hby hzs hsz v n xs hs hown ad m c news hx hl hnews h1 h63 hbytes hbase h

theorem jflat_drop (l : List Jc) (i : Nat) : (jflat l).drop (i * 2) = jflat (l.drop i) := by
  induction l generalizing i with
  | nil => simp [jflat]
  | cons j l ih =>
    cases i with
    | zero => simp [jflat]
    | succ i =>
      rw [show (i + 1) * 2 = i * 2 + 1 + 1 by omega]
      simp [jflat, ih]
/-- A row's two parts, as append reads them. -/
theorem cut_upto {w : World} {B s n c k : Nat} {e t : TypeId} {va : Option Addr} {xs : List Value} (hu : Try.prog.underlying t = some (.slice (Try.prog.elem t))) (h : w.ownsRow B e s (.slice va n c) n xs) (hk : k ≤ n) :
    (∀ wx sz, (sizeOf (Try.prog.elem t)).run Try.prog wx = .ok sz wx → (Instr.slice t (.slice va n c) none (some (.int .i64 (k : Nat))) none).run Try.prog wx = .ok (.slice va k c) wx) ∧ SrcN w s (.slice va k c) k (xs.take (k * s)) := by
  have hl := h.1
  rcases h.2 with ⟨e1, h0⟩ | ⟨g, cap, cur, e1, _, hg, hc, hcur, hlen, hcells⟩
  · cases e1
    obtain rfl : k = 0 := by omega
    refine ⟨fun wx sz hsz => ?_, .inl ⟨rfl, rfl, by simp⟩⟩
    rw [run_slice_h wx t none 0 0 hu .i64 _ (by omega) (by omega), hsz]
    rfl
  · cases e1
    refine ⟨fun wx sz hsz => ?_, .inr ⟨⟨g, 0, none⟩, c, rfl, ?_, fun j u hu => ?_⟩⟩
    · rw [run_slice_h wx t (some ⟨g, 0, none⟩) n c hu .i64 _ (by omega) (by omega), hsz]
      simp [Result.andThen, sliced, Addr.add]
    · rw [List.length_take]
      have := Nat.mul_le_mul_right s hk
      omega
    · have hj := (List.getElem?_eq_some_iff.1 hu).1
      rw [List.length_take] at hj
      rw [List.getElem?_take_of_lt (by omega)] at hu
      exact h.cells (g := g) rfl _ _ hu
theorem cut_from {w : World} {B s n c k : Nat} {e t : TypeId} {va : Option Addr} {xs : List Value} (hu : Try.prog.underlying t = some (.slice (Try.prog.elem t))) (h : w.ownsRow B e s (.slice va n c) n xs) (hk : k ≤ n) :
    ∃ ya yc, (∀ wx, (sizeOf (Try.prog.elem t)).run Try.prog wx = .ok s wx → (Instr.slice t (.slice va n c) (some (.int .i64 (k : Nat))) none none).run Try.prog wx = .ok (.slice ya (n - k) yc) wx) ∧ SrcN w s (.slice ya (n - k) yc) (n - k) (xs.drop (k * s)) := by
  have hl := h.1
  rcases h.2 with ⟨e1, h0⟩ | ⟨g, cap, cur, e1, _, hg, hc, hcur, hlen, hcells⟩
  · cases e1
    obtain rfl : k = 0 := by omega
    refine ⟨none, 0, fun wx hsz => ?_, .inl ⟨rfl, rfl, by simpa using hl⟩⟩
    rw [run_slice_l wx t none 0 0 hu .i64 _ (by omega) (by omega), hsz]
    rfl
  · cases e1
    by_cases hck : c = k
    · subst hck
      obtain rfl : c = n := by omega
      refine ⟨some ⟨g, 0, none⟩, 0, fun wx hsz => ?_, .inr ⟨⟨g, 0, none⟩, 0, rfl, ?_, fun j u hu => ?_⟩⟩
      · rw [run_slice_l wx t (some ⟨g, 0, none⟩) c c hu .i64 _ (by omega) (by omega), hsz]
        simp [Result.andThen, sliced]
      · rw [List.length_drop, hl]
        simp
      · have hj := (List.getElem?_eq_some_iff.1 hu).1
        rw [List.length_drop, hl] at hj
        omega
    · refine ⟨some ⟨g, k * s, none⟩, c - k, fun wx hsz => ?_, .inr ⟨⟨g, k * s, none⟩, c - k, rfl, ?_, fun j u hu => ?_⟩⟩
      · rw [run_slice_l wx t (some ⟨g, 0, none⟩) n c hu .i64 _ (by omega) (by omega), hsz]
        simp [Result.andThen, sliced, Addr.add, hck]
        try exact fun e => e.symm
      · rw [List.length_drop, hl, Nat.sub_mul]
      · have hcs := h.cells (g := g) rfl
        rw [List.getElem?_drop] at hu
        have := hcs _ _ hu
        rw [Addr.add_lit, Nat.zero_add] at this
        rw [Addr.add_lit]
        exact this

theorem OfIs.more {B : Nat} {w w3 : World} {v v' : Value} {L M : List Jc} (h : OfIs B w v L) (ht : ∀ j ∈ M, j.tup.length ≤ 1000000 ∧ w.ownsRow B 3 1 j.x j.tup.length (j.tup.map (.int .i64)))
    (hown : w3.ownsRow B 53 2 v' (L.length + M.length) (jflat L ++ jflat M)) (hg : w.grownBy w3 v.ownBlock) : OfIs B w3 v' (L ++ M) := by
  have hk : ∀ {n : Nat} {x : Value} {xs : List Value}, w.ownsRow B 3 1 x n xs → w3.ownsRow B 3 1 x n xs := fun hr => hr.kept hg (by
    cases e : Value.ownBlock _ with
    | none => exact .inl rfl
    | some k => exact .inr fun q => owns_ne (by decide) hr h.own e q.symm)
  refine ⟨by rw [List.length_append, jflat_append]; exact hown, fun j hj => ?_⟩
  rcases List.mem_append.1 hj with hj | hj
  · exact ⟨(h.tups j hj).1, hk (h.tups j hj).2⟩
  · exact ⟨(ht j hj).1, hk (ht j hj).2⟩
theorem ofis_one {B : Nat} {w : World} {v : Value} {js : List Jc} (h : OfIs B w v js) : ∀ u ∈ jflat js, u.oneCell' = true := jflat_one js fun j hj => by
  obtain ⟨a, c, e⟩ := row_form (h.tups j hj).2
  exact ⟨a, _, c, e⟩

theorem rflat_set_js : ∀ (L : List Sp) (k : Nat) (h : k < L.length) (js : List Jc) (v : Value), (rflat L).set (k * 3 + 2) v = rflat (L.set k ⟨L[k].id, L[k].plain, js, v⟩)
  | [], k, h, _, _ => by simp at h
  | p :: L, 0, _, _, _ => rfl
  | p :: L, k + 1, h, js, v => by
    have := rflat_set_js L k (by simpa using h) js v
    rw [show (k + 1) * 3 + 2 = (k * 3 + 2) + 1 + 1 + 1 by omega]
    simp only [rflat, List.set_cons_succ, List.getElem_cons_succ, this]
/-- A fact's justifications are laid anew where it stands. -/
theorem RefB.setJs {B : Nat} {w : World} {r g c k : Nat} {L : List Sp} (h : RefB B w r (.slice (some ⟨g, 0, none⟩) L.length c) L) (hk : k < L.length) {js : List Jc} {v : Value} (hj : js.length ≤ 1000 ∧ OfIs B w v js) :
    RefB B (w.setCell ⟨g, k * 3 + 2, none⟩ v) r (.slice (some ⟨g, 0, none⟩) L.length c) (L.set k ⟨L[k].id, L[k].plain, js, v⟩) ∧ ROnly B r w (w.setCell ⟨g, k * 3 + 2, none⟩ v) := by
  obtain ⟨cs, hg⟩ := h.blkrow
  have ho : Only [g] w (w.setCell ⟨g, k * 3 + 2, none⟩ v) := (Only.refl [g] w).setCell (.inl (by simp)) _
  have hrg : r ≠ g := by
    rintro rfl
    rw [h.blk] at hg
    cases hg
  have hkp : ∀ {t : TypeId} {s n : Nat} {u : Value} {xs : List Value}, t ≠ 111 → w.ownsRow B t s u n xs → (w.setCell ⟨g, k * 3 + 2, none⟩ v).ownsRow B t s u n xs := fun ht hr => owns_only hr ho (fun j hj hm => by
    simp only [List.mem_singleton] at hm
    subst hm
    exact owns_not hr hg ht hj)
  obtain ⟨_, _, e0, _, hb0, hb2⟩ := h.at hk
  injection e0 with e1 e2 e3
  cases e1
  obtain ⟨va, vc, hv⟩ := (h.js _ (List.getElem_mem hk)).2.form
  refine ⟨⟨(ho.block r (lt_of_heap h.blk) (by simpa using hrg)).trans h.blk, h.hB, ?_, fun p hp => ?_, by simpa using h.len, ?_⟩, ROnly.of_row (row_own h.row g rfl) hg (fun z q => by rw [hb2, hv] at q; cases q) (.inr fun j e z q => ?_)⟩
  · rw [List.length_set, ← rflat_set_js L k hk js v]
    exact owns_set h.row
  · have hp' : p.js.length ≤ 1000 ∧ OfIs B w p.v p.js := by
      rcases List.mem_or_eq_of_mem_set hp with hp | rfl
      · exact h.js p hp
      · exact hj
    exact ⟨hp'.1, hkp (by decide) hp'.2.own, fun j hj => ⟨(hp'.2.tups j hj).1, hkp (by decide) (hp'.2.tups j hj).2⟩⟩
  · have e : (L.set k ⟨L[k].id, L[k].plain, js, v⟩).map Sp.id = L.map Sp.id := by
      rw [List.map_set]
      refine List.ext_getElem (by simp) fun i h1 h2 => ?_
      rw [List.getElem_set]
      split
      · rename_i q
        subst q
        simp
      · rfl
    rw [e]
    exact h.asc
  · obtain rfl : j = k * 3 + 1 := by omega
    rw [hb0] at q
    cases q

/-- Where a justification belongs, behind k of the row. -/
structure RPos (js : List Jc) (J : Jc) (k a : Nat) : Prop where
  ak : a ≤ k
  no : ∀ j (hj : j < js.length), j < k → js[j].same J = false
  lo : ∀ j (hj : j < js.length), j + 1 = a → cmpJ js[j] J < 0
  hi : ∀ j (hj : j < js.length), a ≤ j → j < k → ¬ cmpJ js[j] J < 0
theorem RPos.zero (js : List Jc) (J : Jc) : RPos js J 0 0 := ⟨Nat.le_refl _, fun _ _ h => by omega, fun _ _ h => by omega, fun _ _ _ h => by omega⟩
theorem RPos.less {js : List Jc} {J : Jc} {k a : Nat} (h : RPos js J k a) (hk : k < js.length) (hn : js[k].same J = false) (hl : cmpJ js[k] J < 0) : RPos js J (k + 1) (k + 1) :=
  ⟨Nat.le_refl _, fun j hj hjk => by
    rcases Nat.lt_or_ge j k with q | q
    · exact h.no j hj q
    · obtain rfl : j = k := by omega
      exact hn, fun j hj e => by
    obtain rfl : j = k := by omega
    exact hl, fun j hj h1 h2 => by omega⟩
theorem RPos.more {js : List Jc} {J : Jc} {k a : Nat} (h : RPos js J k a) (hk : k < js.length) (hn : js[k].same J = false) (hl : ¬ cmpJ js[k] J < 0) : RPos js J (k + 1) a :=
  ⟨by have := h.ak; omega, fun j hj hjk => by
    rcases Nat.lt_or_ge j k with q | q
    · exact h.no j hj q
    · obtain rfl : j = k := by omega
      exact hn, h.lo, fun j hj h1 h2 => by
    rcases Nat.lt_or_ge j k with q | q
    · exact h.hi j hj h1 q
    · obtain rfl : j = k := by omega
      exact hl⟩
theorem cmpJ_lt (x J : Jc) : cmpJ x J < 0 ↔ x.rule < J.rule ∨ (x.rule = J.rule ∧ cmpL x.tup J.tup < 0) := by
  unfold cmpJ andThen Lib.compareInt
  rcases Int.lt_trichotomy x.rule J.rule with h | h | h
  · simp [h]
  · simp [h]
  · have h1 : ¬ x.rule < J.rule := by omega
    have h2 : x.rule ≠ J.rule := by omega
    simp [h1, h2, h]
theorem RPos.none {js : List Jc} {J : Jc} {a : Nat} (h : RPos js J js.length a) : (js.any fun x => x.same J) = false := by
  rw [List.any_eq_false]
  intro x hx
  obtain ⟨j, hj, rfl⟩ := List.getElem_of_mem hx
  rw [h.no j hj hj]
  simp
end Go.Proofs.Ytmcajoccfbebiaa
