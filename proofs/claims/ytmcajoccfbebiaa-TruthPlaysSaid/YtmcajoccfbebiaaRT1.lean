/- witanref29's Book: how it lies in memory; find, IsPlain, Of, in. -/
import Derived.Test.YtmcajoccfbebiaaOpsRow
import Derived.Test.YtmcajoccfbebiaaRowsN
namespace Go.Proofs.Ytmcajoccfbebiaa
open Go Go.RowKit Go.MapKept Go.Sort

/-- The cells of the document's facts. -/
def rflat : List Sp → List Value
  | [] => []
  | p :: l => .int .i64 p.id :: .bool p.plain :: p.v :: rflat l
theorem rflat_append (l m : List Sp) : rflat (l ++ m) = rflat l ++ rflat m := by
  induction l with
  | nil => rfl
  | cons j l ih => simp [rflat, ih]
theorem rflat_length (l : List Sp) : (rflat l).length = l.length * 3 := by
  induction l with
  | nil => rfl
  | cons j l ih => simp [rflat, ih]; omega
theorem rflat_get : ∀ (l : List Sp) (i : Nat) (h : i < l.length), (rflat l)[i * 3]? = some (.int .i64 l[i].id) ∧ (rflat l)[i * 3 + 1]? = some (.bool l[i].plain) ∧ (rflat l)[i * 3 + 2]? = some l[i].v
  | [], i, h => by simp at h
  | j :: l, 0, _ => ⟨rfl, rfl, rfl⟩
  | j :: l, i + 1, h => by
    have := rflat_get l i (by simpa using h)
    rw [show (i + 1) * 3 = i * 3 + 1 + 1 + 1 by omega]
    exact this
theorem rflat_take (l : List Sp) (i : Nat) : (rflat l).take (i * 3) = rflat (l.take i) := by
  induction l generalizing i with
  | nil => simp [rflat]
  | cons p l ih =>
    cases i with
    | zero => simp [rflat]
    | succ i =>
      rw [show (i + 1) * 3 = i * 3 + 1 + 1 + 1 by omega]
      simp [rflat, ih]
theorem rflat_drop (l : List Sp) (i : Nat) : (rflat l).drop (i * 3) = rflat (l.drop i) := by
  induction l generalizing i with
  | nil => simp [rflat]
  | cons p l ih =>
    cases i with
    | zero => simp [rflat]
    | succ i =>
      rw [show (i + 1) * 3 = i * 3 + 1 + 1 + 1 by omega]
      simp [rflat, ih]

/-- The document's book: block r, its rows v, the facts L. All of it lies from block B on, in rows of its own. -/
structure RefB (B : Nat) (w : World) (r : Nat) (v : Value) (L : List Sp) : Prop where
  blk : w.heap[r]? = some (.cells #[v] 70 (0, 0))
  hB : B ≤ r
  row : w.ownsRow B 111 3 v L.length (rflat L)
  js : ∀ p ∈ L, p.js.length ≤ 1000 ∧ OfIs B w p.v p.js
  len : L.length ≤ 1000
  asc : (L.map Sp.id).Pairwise (· < ·)
theorem RefB.below {B : Nat} {w V : World} {r : Nat} {v : Value} {L : List Sp} (h : RefB B w r v L) (hb : Below w.heap.size w V) : RefB B V r v L :=
  ⟨(hb.block r (lt_of_heap h.blk)).trans h.blk, h.hB, owns_below h.row hb, fun p hp => ⟨(h.js p hp).1, (h.js p hp).2.below hb⟩, h.len, h.asc⟩
theorem RefB.form {B : Nat} {w : World} {r : Nat} {v : Value} {L : List Sp} (h : RefB B w r v L) : ∃ a c, v = .slice a L.length c := row_form h.row
theorem RefB.at {B : Nat} {w : World} {r : Nat} {v : Value} {L : List Sp} (h : RefB B w r v L) {k : Nat} (hk : k < L.length) : ∃ g c, v = .slice (some ⟨g, 0, none⟩) L.length c ∧
    w.cell? ⟨g, k * 3, none⟩ = some (.int .i64 L[k].id) ∧ w.cell? ⟨g, k * 3 + 1, none⟩ = some (.bool L[k].plain) ∧ w.cell? ⟨g, k * 3 + 2, none⟩ = some L[k].v := by
  rcases h.row.2 with ⟨rfl, h0⟩ | ⟨g, cap, cur, rfl, _⟩
  · omega
  · have hc := h.row.cells (g := g) rfl
    obtain ⟨h0, h1, h2⟩ := rflat_get L k hk
    have c0 := hc _ _ h0
    have c1 := hc _ _ h1
    have c2 := hc _ _ h2
    simp only [Addr.add_lit, Nat.zero_add] at c0 c1 c2
    exact ⟨g, cap, rfl, c0, c1, c2⟩

set_option maxHeartbeats 1000000 in
theorem rfind_any (B r : Nat) (v : Value) (L : List Sp) (id : Int) (w : World) (h : RefB B w r v L) :
    Calls Try.prog 77 #[.pointer (some ⟨r, 0, none⟩), .int .i64 id] w fun e w' => ((∃ k, ∃ hk : k < L.length, e = .returned (.int .i64 (k : Nat)) ∧ L[k].id = id) ∨ (e = .returned (.int .i64 (-1)) ∧ ∀ p ∈ L, p.id ≠ id)) ∧ w = w' := by
  obtain ⟨va, vc, rfl⟩ := h.form
  have c0 := (cells1b h.blk).1
  have hlen := h.len
  have H := hide h
  clear h
  go_enter Try.func77, Try.ntmps77
  go_wp2
  go_loopw [5] (fun vi wr => ∃ k : Nat, k ≤ L.length ∧ vi = .int .i64 k ∧ Hid ((∀ j (hj : j < L.length), j < k → L[j].id ≠ id) ∧ w = wr)) (fun vi _ => L.length - (intOf vi).toNat)
  case atStart => exact ⟨0, Nat.zero_le _, rfl, fun j _ h => by omega, rfl⟩
  case round =>
    obtain ⟨k, hk, rfl, hq⟩ := hrel
    obtain ⟨hno, rfl⟩ := hq.out
    by_cases hlk : k < L.length
    · obtain ⟨g, cap, e, d0, _, _⟩ := H.out.at hlk
      injection e with e1 e2 e3
      subst e1 e3
      clear e2
      have Hno := hide hno
      obtain ⟨z, hz⟩ : ∃ z, L[k].id = z := ⟨_, rfl⟩
      rw [hz] at d0
      have Hz := hide hz
      clear hno hz hq
      by_cases he : z = id
      · subst he
        go_wp2
        go_ret
        exact ⟨.inl ⟨k, hlk, rfl, Hz.out⟩, rfl⟩
      · have hb : (z == id) = false := by simpa using he
        have He := hide he
        clear he
        go_wp2
        go_roundw
        case rel =>
          refine ⟨k + 1, by omega, by go_num, fun j hj hjk => ?_, by trivial⟩
          rcases Nat.lt_or_ge j k with q | q
          · exact Hno.out j hj q
          · obtain rfl : j = k := by omega
            rw [Hz.out]
            exact He.out
        case measure => simp [intOf]; omega
    · obtain rfl : k = L.length := by omega
      have Hno := hide hno
      clear hno hq
      go_wp2
      go_ret
      refine ⟨.inr ⟨rfl, fun p hp => ?_⟩, rfl⟩
      obtain ⟨j, hj, rfl⟩ := List.getElem_of_mem hp
      exact Hno.out j hj hj

theorem getD_cons (p : Sp) (L : List Sp) (id : Int) : getD (p :: L) id = if p.id = id then p else getD L id := by
  unfold getD getS
  rw [List.find?_cons]
  by_cases h : p.id = id
  · rw [if_pos h]
    simp [h]
  · rw [if_neg h]
    have : (p.id == id) = false := by simpa using h
    rw [this]
theorem getD_at {L : List Sp} (h : (L.map Sp.id).Pairwise (· < ·)) {k : Nat} (hk : k < L.length) : getD L L[k].id = L[k] := by
  induction L generalizing k with
  | nil => simp at hk
  | cons p L ih =>
    rw [List.map_cons, List.pairwise_cons] at h
    rw [getD_cons]
    cases k with
    | zero => simp
    | succ k =>
      have hk' : k < L.length := by simpa using hk
      have h1 := h.1 L[k].id (List.mem_map.2 ⟨_, List.getElem_mem hk', rfl⟩)
      rw [List.getElem_cons_succ, if_neg (by omega)]
      exact ih h.2 hk'
theorem getD_none {L : List Sp} {id : Int} (h : ∀ p ∈ L, p.id ≠ id) : getD L id = ⟨id, false, [], .slice none 0 0⟩ := by
  unfold getD getS
  rw [List.find?_eq_none.2 (fun p hp => by simpa using h p hp)]
  rfl

theorem risPlain_any (B r : Nat) (v : Value) (L : List Sp) (id : Int) (w : World) (h : RefB B w r v L) :
    Calls Try.prog 40 #[.pointer (some ⟨r, 0, none⟩), .int .i64 id] w fun e w' => e = .returned (.bool (getD L id).plain) ∧ w = w' := by
  obtain ⟨va, vc, rfl⟩ := h.form
  have c0 := (cells1b h.blk).1
  have hlen := h.len
  have hf := rfind_any B r _ L id w h
  have Hf := hide hf
  have H := hide h
  clear h hf
  go_enter Try.func40, Try.ntmps40
  go_wp2_with fail
  (with_reducible refine Hf.out.mono ?_)
  rintro e w' ⟨⟨k, hk, rfl, hid⟩ | ⟨rfl, hno⟩, rfl⟩
  · obtain ⟨g, cap, e, _, d1, _⟩ := H.out.at hk
    injection e with e1 e2 e3
    subst e1 e3
    clear e2
    have hg := getD_at H.out.asc hk
    rw [hid] at hg
    obtain ⟨p, hp⟩ : ∃ p, L[k].plain = p := ⟨_, rfl⟩
    rw [hp] at d1
    have Hg : Hid ((getD L id).plain = p) := hide (by rw [hg]; exact hp)
    have hk0 : (0 : Int) ≤ (k : Int) := by omega
    clear hg hid hp
    go_wp2
    go_ret
    exact ⟨by rw [Hg.out]; rfl, rfl⟩
  · have Hg := hide (getD_none hno)
    clear hno
    go_wp2
    go_ret
    exact ⟨by rw [Hg.out]; rfl, rfl⟩
theorem rof_any (B r : Nat) (v : Value) (L : List Sp) (id : Int) (w : World) (h : RefB B w r v L) :
    Calls Try.prog 41 #[.pointer (some ⟨r, 0, none⟩), .int .i64 id] w fun e w' => (∃ v, e = .returned v ∧ JsIs w v (getD L id).js) ∧ w = w' := by
  obtain ⟨va, vc, rfl⟩ := h.form
  have c0 := (cells1b h.blk).1
  have hlen := h.len
  have hf := rfind_any B r _ L id w h
  have Hf := hide hf
  have H := hide h
  clear h hf
  go_enter Try.func41, Try.ntmps41
  go_wp2_with fail
  (with_reducible refine Hf.out.mono ?_)
  rintro e w' ⟨⟨k, hk, rfl, hid⟩ | ⟨rfl, hno⟩, rfl⟩
  · obtain ⟨g, cap, e, _, _, d2⟩ := H.out.at hk
    injection e with e1 e2 e3
    subst e1 e3
    clear e2
    have hg := getD_at H.out.asc hk
    rw [hid] at hg
    have Hg := hide hg
    have hj := H.out.js _ (List.getElem_mem hk)
    have Hj := hide (hj.2.js (by omega))
    obtain ⟨ja, jc, hv⟩ := hj.2.form
    rw [hv] at d2
    have Hv := hide hv
    have hk0 : ¬ (k : Int) < 0 := by omega
    have hjl := hj.1
    obtain ⟨jn, hjn⟩ : ∃ jn, L[k].js.length = jn := ⟨_, rfl⟩
    rw [hjn] at d2 hjl Hv
    clear hg hid hj hv hjn
    go_wp2
    go_ret
    exact ⟨⟨_, rfl, by rw [← Hv.out, Hg.out]; exact Hj.out⟩, rfl⟩
  · have Hg := hide (getD_none hno)
    clear hno
    go_wp2
    go_ret
    exact ⟨⟨_, rfl, by rw [Hg.out]; exact JsIs.nil _⟩, rfl⟩

theorem rin_any (x : Value) (l : List Int) (id : Int) (w : World) (h : NIs w x l) :
    Calls Try.prog 75 #[x, .int .i64 id] w fun e w' => e = .returned (.bool (l.any fun y => y == id)) ∧ w = w' := by
  obtain ⟨xa, xc, rfl⟩ := h.form
  have hl := h.1
  have H := hide h
  clear h
  go_enter Try.func75, Try.ntmps75
  go_wp2
  go_loopw [5] (fun vi wr => ∃ k : Nat, k ≤ l.length ∧ vi = .int .i64 k ∧ Hid ((l.take k).any (fun y => y == id) = false ∧ w = wr)) (fun vi _ => l.length - (intOf vi).toNat)
  case atStart => exact ⟨0, Nat.zero_le _, rfl, by simp, rfl⟩
  case round =>
    obtain ⟨k, hk, rfl, hq⟩ := hrel
    obtain ⟨hno, rfl⟩ := hq.out
    by_cases hlk : k < l.length
    · obtain ⟨g, off, cap, e, d0⟩ := nis_at H.out hlk
      injection e with e1 e2 e3
      subst e1 e3
      clear e2
      have hst : (l.take (k + 1)).any (fun y => y == id) = (l[k] == id) := by
        rw [List.take_succ_eq_append_getElem hlk, List.any_append, hno]
        simp
      have hyes : l[k] = id → (l.any fun y => y == id) = true := fun h => List.any_eq_true.2 ⟨l[k], List.getElem_mem hlk, by simp [h]⟩
      obtain ⟨z, hz⟩ : ∃ z, l[k] = z := ⟨_, rfl⟩
      rw [hz] at d0 hst hyes
      have Hst := hide hst
      have Hyes := hide hyes
      clear hno hz hq hst hyes
      by_cases he : z = id
      · subst he
        go_wp2
        go_ret
        exact ⟨by rw [Hyes.out trivial]; rfl, rfl⟩
      · have hb : (z == id) = false := by simpa using he
        rw [hb] at Hst
        clear he Hyes
        go_wp2
        go_roundw
        case rel => exact ⟨k + 1, by omega, by go_num, Hst.out, by trivial⟩
        case measure => simp [intOf]; omega
    · obtain rfl : k = l.length := by omega
      rw [List.take_length] at hno
      have Hno := hide hno
      clear hno hq
      go_wp2
      go_ret
      exact ⟨by rw [Hno.out]; rfl, rfl⟩
end Go.Proofs.Ytmcajoccfbebiaa
